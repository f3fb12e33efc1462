/- What is printed is scanned again. -/
import Derived.Test.YtmofhelddcnecaaGreatDoorB3
import Derived.Test.YtmofhelddcnecaaGreatDoorBM
import Derived.Test.YtmofhelddcnecaaGreatDoorBK
import Derived.Test.YtmofhelddcnecaaGreatDoorBNE
import Derived.Test.YtmofhelddcnecaaGreatDoorBLb
import Derived.Test.YtmofhelddcnecaaGreatDoorBW
import Derived.Test.YtmofhelddcnecaaGreatDoorBL1
import Derived.Test.YtmofhelddcnecaaGreatDoorBND
import Derived.Test.YtmofhelddcnecaaGreatDoorB6
import Derived.Test.YtmofhelddcnecaaGreatDoorBLd
set_option linter.unusedVariables false
set_option linter.unusedSimpArgs false
set_option maxRecDepth 4000
namespace Go.Ev.Bk
open PV
/-! What is printed. -/
/-- The inside of a literal with these contents, where there is one. -/
def escO : List UInt8 → Option (List UInt8)
  | [] => some []
  | c :: t => if c.toNat = 34 ∨ c.toNat = 92 then (escO t).map fun e => 92 :: c :: e
    else if c.toNat = 10 then (escO t).map fun e => 92 :: 110 :: e
    else if c.toNat < 32 ∨ 126 < c.toNat then none
    else (escO t).map fun e => c :: e
def quoteO (l : List UInt8) : Option (List UInt8) := if 60 < l.length then none else (escO l).map fun e => 34 :: (e ++ [34])
def shortL (l : List UInt8) : Bool := nameL l && decide (l.length ≤ 24)
def intOk (l : List UInt8) : Bool := (match l with | [] => false | c :: _ => isDigitI c.toNat) && decide ((intR l).err = 0) && decide ((intR l).text = l)
def textO (k : Int) (l : List UInt8) : Option (List UInt8) :=
  if k = 1 then if shortL l then some l else none
  else if k = 2 then if isKwL l then some l else none
  else if k = 3 then if intOk l then some l else none
  else if k = 4 then quoteO l
  else if k = 5 then if isMarkL l then some l else none
  else if k = 6 then if shortL l then some (36 :: l) else none
  else if k = 7 then if shortL l then some (36 :: 36 :: l) else none
  else none
end Go.Ev.Bk
namespace Go.Ev
def Tok.out (x : Tok) : Option (List UInt8) := Bk.textO x.kind x.text.data.toList
end Go.Ev
namespace Go.Ev.Bk
/-- Texts with a blank between them. -/
def joinL : List (List UInt8) → List UInt8
  | [] => []
  | [a] => a
  | a :: b :: t => a ++ 32 :: joinL (b :: t)
def outs : List Tok → Option (List (List UInt8))
  | [] => some []
  | x :: t => match x.out, outs t with
    | some a, some l => some (a :: l)
    | _, _ => none
theorem escO_len : ∀ l e, escO l = some e → e.length ≤ 2 * l.length
  | [], e, h => by simp [escO] at h; subst h; simp
  | c :: t, e, h => by
    unfold escO at h
    have ih := escO_len t
    split at h
    · obtain ⟨a, ha, rfl⟩ := Option.map_eq_some_iff.1 h
      have := ih a ha
      simp; omega
    · split at h
      · obtain ⟨a, ha, rfl⟩ := Option.map_eq_some_iff.1 h
        have := ih a ha
        simp; omega
      · split at h
        · simp at h
        · obtain ⟨a, ha, rfl⟩ := Option.map_eq_some_iff.1 h
          have := ih a ha
          simp; omega
theorem escO_esc (c : UInt8) (t : List UInt8) (h : c.toNat = 34 ∨ c.toNat = 92) : escO (c :: t) = (escO t).map fun e => 92 :: c :: e := by rw [escO, if_pos h]
theorem escO_n (c : UInt8) (t : List UInt8) (h : c.toNat = 10) : escO (c :: t) = (escO t).map fun e => 92 :: 110 :: e := by rw [escO, if_neg (by omega), if_pos h]
theorem escO_no (c : UInt8) (t : List UInt8) (h1 : c.toNat ≠ 10) (h : c.toNat < 32 ∨ 126 < c.toNat) : escO (c :: t) = none := by rw [escO, if_neg (by omega), if_neg h1, if_pos h]
theorem escO_ch (c : UInt8) (t : List UInt8) (h1 : c.toNat ≠ 34) (h2 : c.toNat ≠ 92) (h : 32 ≤ c.toNat) (h3 : c.toNat ≤ 126) : escO (c :: t) = (escO t).map fun e => c :: e := by rw [escO, if_neg (by omega), if_neg (by omega), if_neg (by omega)]

def tokAt (pat : Bool) (l : List UInt8) (p : Nat) : Tok := ⟨(rdTok pat l).kind, tx (rdTok pat l).text, p, (p + (rdTok pat l).len : Nat)⟩
/-- What stands behind the first token and the blanks that follow it, and how far that is. -/
def gapN (pat : Bool) (l : List UInt8) : Nat := skipGo false (l.drop (rdTok pat l).len)
def stepN (pat : Bool) (l : List UInt8) : Nat := (rdTok pat l).len + gapN pat l
def restL (pat : Bool) (l : List UInt8) : List UInt8 := (l.drop (rdTok pat l).len).drop (gapN pat l)
def toksF (pat : Bool) : Nat → List UInt8 → Nat → Option (List Tok)
  | 0, l, _ => if l = [] then some [] else none
  | f + 1, l, p => if l = [] then some [] else if (rdTok pat l).err = 0 then (toksF pat f (restL pat l) (p + stepN pat l)).map (tokAt pat l p :: ·) else none
def toks (pat : Bool) (l : List UInt8) (p : Nat) : Option (List Tok) := toksF pat l.length l p
theorem restL_lt (pat : Bool) (l : List UInt8) (he : (rdTok pat l).err = 0) : (restL pat l).length < l.length := by
  have h := rdTok_len pat l he
  unfold restL
  rw [List.length_drop, List.length_drop]
  omega
theorem toksF_enough (pat : Bool) : ∀ (n f g : Nat) (l : List UInt8) (p : Nat), l.length ≤ n → l.length ≤ f → l.length ≤ g → toksF pat f l p = toksF pat g l p
  | n, 0, g, l, p, hn, hf, hg => by
    obtain rfl := List.eq_nil_of_length_eq_zero (Nat.le_zero.1 hf)
    cases g <;> simp [toksF]
  | n, f + 1, 0, l, p, hn, hf, hg => by
    obtain rfl := List.eq_nil_of_length_eq_zero (Nat.le_zero.1 hg)
    simp [toksF]
  | 0, f + 1, g + 1, l, p, hn, hf, hg => by
    obtain rfl := List.eq_nil_of_length_eq_zero (Nat.le_zero.1 hn)
    simp [toksF]
  | n + 1, f + 1, g + 1, l, p, hn, hf, hg => by
    unfold toksF
    by_cases hl : l = []
    · rw [if_pos hl, if_pos hl]
    · rw [if_neg hl, if_neg hl]
      by_cases he : (rdTok pat l).err = 0
      · have := restL_lt pat l he
        rw [if_pos he, if_pos he, toksF_enough pat n f g _ _ (by omega) (by omega) (by omega)]
      · rw [if_neg he, if_neg he]
theorem toks_nil (pat : Bool) (p : Nat) : toks pat [] p = some [] := by simp [toks, toksF]
theorem toks_cons (pat : Bool) (l : List UInt8) (p : Nat) (hl : l ≠ []) (he : (rdTok pat l).err = 0) : toks pat l p = (toks pat (restL pat l) (p + stepN pat l)).map (tokAt pat l p :: ·) := by
  have h := restL_lt pat l he
  unfold toks
  rw [toksF_enough pat l.length l.length (l.length + 1) l p (Nat.le_refl _) (Nat.le_refl _) (by omega)]
  rw [toksF, if_neg hl, if_pos he, toksF_enough pat l.length l.length (restL pat l).length _ _ (by omega) (by omega) (Nat.le_refl _)]
theorem toks_err (pat : Bool) (l : List UInt8) (p : Nat) (hl : l ≠ []) (he : (rdTok pat l).err ≠ 0) : toks pat l p = none := by
  unfold toks
  rw [toksF_enough pat l.length l.length (l.length + 1) l p (Nat.le_refl _) (Nat.le_refl _) (by omega)]
  rw [toksF, if_neg hl, if_neg he]

theorem scanW_cons (pat : Bool) (f : Nat) (l : List UInt8) (p : Nat) (acc : List Tok) (hl : l ≠ []) : scanW pat (f + 1) l p acc =
    if (rdTok pat l).err = 0 then if 600 ≤ acc.length then ⟨[], p, 4⟩ else scanW pat f (restL pat l) (p + stepN pat l) (acc ++ [tokAt pat l p]) else ⟨[], p, (rdTok pat l).err⟩ := by
  cases l with
  | nil => exact absurd rfl hl
  | cons c t =>
    rw [scanW]
    · rw [show p + stepN pat (c :: t) = p + (rdTok pat (c :: t)).len + gapN pat (c :: t) from by unfold stepN; omega]
      rfl
    · simp
theorem scanW_nil (pat : Bool) (f : Nat) (p : Nat) (acc : List Tok) : scanW pat f [] p acc = ⟨acc, 0, 0⟩ := by cases f <;> rfl

/-- Few enough tokens without an error: the scan gives them. -/
theorem scanW_ok (pat : Bool) : ∀ (f : Nat) (l : List UInt8) (p : Nat) (acc ts : List Tok), l.length < f → toks pat l p = some ts → acc.length + ts.length ≤ 600 → scanW pat f l p acc = ⟨acc ++ ts, 0, 0⟩
  | 0, l, p, acc, ts, hf, h, hn => absurd hf (by omega)
  | f + 1, l, p, acc, ts, hf, h, hn => by
    by_cases hl : l = []
    · subst hl
      rw [toks_nil] at h
      cases h
      rw [scanW_nil, List.append_nil]
    · by_cases he : (rdTok pat l).err = 0
      · rw [toks_cons pat l p hl he] at h
        obtain ⟨ts', h', rfl⟩ := Option.map_eq_some_iff.1 h
        rw [List.length_cons] at hn
        have hr := restL_lt pat l he
        rw [scanW_cons pat f l p acc hl, if_pos he, if_neg (by omega), scanW_ok pat f _ _ _ ts' (by omega) h' (by rw [List.length_append]; simp; omega)]
        simp
      · rw [toks_err pat l p hl he] at h
        cases h
/-- A scan without an error. -/
theorem scanW_inv (pat : Bool) : ∀ (f : Nat) (l : List UInt8) (p : Nat) (acc : List Tok), l.length < f → (scanW pat f l p acc).err = 0 → acc.length ≤ 600 → ∃ ts, toks pat l p = some ts ∧ acc.length + ts.length ≤ 600 ∧ scanW pat f l p acc = ⟨acc ++ ts, 0, 0⟩
  | 0, l, p, acc, hf, h, hn => absurd hf (by omega)
  | f + 1, l, p, acc, hf, h, hn => by
    by_cases hl : l = []
    · subst hl
      exact ⟨[], toks_nil _ _, by simpa using hn, by rw [scanW_nil, List.append_nil]⟩
    · by_cases he : (rdTok pat l).err = 0
      · have hr := restL_lt pat l he
        rw [scanW_cons pat f l p acc hl, if_pos he] at h ⊢
        by_cases h6 : 600 ≤ acc.length
        · rw [if_pos h6] at h
          exact absurd h (by simp)
        · rw [if_neg h6] at h ⊢
          obtain ⟨ts, h1, h2, h3⟩ := scanW_inv pat f _ _ _ (by omega) h (by rw [List.length_append]; simp; omega)
          rw [List.length_append] at h2
          refine ⟨tokAt pat l p :: ts, by rw [toks_cons pat l p hl he, h1]; rfl, by simp at h2 ⊢; omega, by rw [h3]; simp⟩
      · rw [scanW_cons pat f l p acc hl, if_neg he] at h
        exact absurd h he
theorem skipT (c : UInt8) (t : List UInt8) : skipGo true (c :: t) = if c.toNat = 10 then skipGo false t + 1 else skipGo true t + 1 := by rw [skipGo_cons, if_pos rfl]
theorem skipF (c : UInt8) (t : List UInt8) : skipGo false (c :: t) = if blankI c.toNat then skipGo false t + 1 else if c.toNat = 47 ∧ (t.head?.map (·.toNat)) = some 47 then skipGo true t + 1 else 0 := by rw [skipGo_cons, if_neg (by simp)]
/-- A line feed ends every comment: what stands before it is skipped as it would be alone. -/
theorem skip_lf (x : List UInt8) : ∀ (l : List UInt8) (b : Bool), skipGo b (l ++ 10 :: x) = if skipGo b l = l.length then l.length + 1 + skipGo false x else skipGo b l
  | [], true => by
    rw [List.nil_append, skipT, if_pos (by decide)]
    simp [skipGo]; omega
  | [], false => by
    rw [List.nil_append, skipF, if_pos (by decide)]
    simp [skipGo]; omega
  | c :: t, true => by
    rw [List.cons_append, skipT, skipT, List.length_cons]
    by_cases h : c.toNat = 10
    · rw [if_pos h, if_pos h, skip_lf x t false]
      by_cases h3 : skipGo false t = t.length
      · rw [if_pos h3, if_pos (by omega)]; omega
      · rw [if_neg h3, if_neg (by omega)]
    · rw [if_neg h, if_neg h, skip_lf x t true]
      by_cases h3 : skipGo true t = t.length
      · rw [if_pos h3, if_pos (by omega)]; omega
      · rw [if_neg h3, if_neg (by omega)]
  | c :: t, false => by
    rw [List.cons_append, skipF, skipF, List.length_cons]
    by_cases h : blankI c.toNat = true
    · rw [if_pos h, if_pos h, skip_lf x t false]
      by_cases h3 : skipGo false t = t.length
      · rw [if_pos h3, if_pos (by omega)]; omega
      · rw [if_neg h3, if_neg (by omega)]
    · rw [if_neg h, if_neg h]
      by_cases h2 : c.toNat = 47 ∧ (t.head?.map (·.toNat)) = some 47
      · have h2' : c.toNat = 47 ∧ ((t ++ 10 :: x).head?.map (·.toNat)) = some 47 := by
          cases t with
          | nil => simp at h2
          | cons d u => exact h2
        rw [if_pos h2, if_pos h2', skip_lf x t true]
        by_cases h3 : skipGo true t = t.length
        · rw [if_pos h3, if_pos (by omega)]; omega
        · rw [if_neg h3, if_neg (by omega)]
      · have h2' : ¬ (c.toNat = 47 ∧ ((t ++ 10 :: x).head?.map (·.toNat)) = some 47) := by
          cases t with
          | nil => simp
          | cons d u => exact h2
        rw [if_neg h2, if_neg h2', if_neg (by omega)]

/-- What may stand behind a token in place of v: nothing, something with the same first byte, a blank or a line feed. -/
def After (v y : List UInt8) : Prop := y.head? = v.head? ∨ y.head? = none ∨ y.head? = some 32 ∨ y.head? = some 10

theorem tw_append {α : Type} (p : α → Bool) : ∀ (u y : List α), (∀ a ∈ u, p a = true) → (u ++ y).takeWhile p = u ++ y.takeWhile p
  | [], y, _ => rfl
  | a :: u, y, h => by rw [List.cons_append, List.takeWhile_cons, h a (by simp), if_pos rfl, tw_append p u y (fun b hb => h b (by simp [hb])), List.cons_append]
theorem tw_all {α : Type} (p : α → Bool) : ∀ (u v : List α), ((u ++ v).takeWhile p).length = u.length → (∀ a ∈ u, p a = true) ∧ (∀ b, v.head? = some b → p b = false)
  | [], v, h => by
    refine ⟨by simp, fun b hb => ?_⟩
    cases v with
    | nil => simp at hb
    | cons c t =>
      simp at hb
      subst hb
      rw [List.nil_append, List.takeWhile_cons] at h
      cases hp : p c
      · rfl
      · rw [hp] at h; simp at h
  | a :: u, v, h => by
    rw [List.cons_append, List.takeWhile_cons] at h
    cases hp : p a
    · rw [hp] at h; simp at h
    · rw [hp, if_pos rfl] at h
      simp at h
      obtain ⟨h1, h2⟩ := tw_all p u v h
      exact ⟨fun b hb => by rcases List.mem_cons.1 hb with rfl | hb; exact hp; exact h1 b hb, h2⟩
theorem tw_none {α : Type} (p : α → Bool) (y : List α) (h : ∀ b, y.head? = some b → p b = false) : y.takeWhile p = [] := by
  cases y with
  | nil => rfl
  | cons c t => rw [List.takeWhile_cons, h c rfl]; rfl
theorem after_head {v y : List UInt8} (h : After v y) (p : UInt8 → Bool) (h1 : p 32 = false) (h2 : p 10 = false) (hv : ∀ b, v.head? = some b → p b = false) : ∀ b, y.head? = some b → p b = false := by
  intro b hb
  rcases h with h | h | h | h
  · exact hv b (h ▸ hb)
  · rw [h] at hb; cases hb
  · rw [h] at hb; cases hb; exact h1
  · rw [h] at hb; cases hb; exact h2
/-- A run that ends behind u ends there whatever stands behind. -/
theorem run_swap (p : UInt8 → Bool) (h1 : p 32 = false) (h2 : p 10 = false) (u v y : List UInt8) (h : ((u ++ v).takeWhile p).length = u.length) (ha : After v y) : (u ++ y).takeWhile p = u := by
  obtain ⟨hu, hv⟩ := tw_all p u v h
  rw [tw_append p u y hu, tw_none p y (after_head ha p h1 h2 hv), List.append_nil]
theorem run_self (p : UInt8 → Bool) (u v : List UInt8) (h : ((u ++ v).takeWhile p).length = u.length) : (u ++ v).takeWhile p = u := by
  obtain ⟨hu, hv⟩ := tw_all p u v h
  rw [tw_append p u v hu, tw_none p v hv, List.append_nil]
theorem take_wordLen (l : List UInt8) : l.take (wordLen l) = l.takeWhile isWordB := by
  unfold wordLen
  induction l with
  | nil => rfl
  | cons a l ih =>
    rw [List.takeWhile_cons]
    cases h : isWordB a
    · rfl
    · simp [ih]
theorem wordT_len (l : List UInt8) : (wordT l).length = wordLen l := by
  unfold wordT
  rw [List.length_take]
  have := wordLen_le l
  omega

theorem wordR_swap (u v y : List UInt8) (he : (wordR (u ++ v)).err = 0) (hl : (wordR (u ++ v)).len = u.length) (ha : After v y) : wordR (u ++ y) = wordR (u ++ v) := by
  have hlen : (wordT (u ++ v)).length = u.length := by
    unfold wordR at he hl
    split at he
    · rename_i h1; rw [if_pos h1] at hl; exact hl
    · rename_i h1
      rw [if_neg h1] at hl
      split at he
      · simp [RK.bad] at he
      · rename_i h2; rw [if_neg h2] at hl; exact hl
  rw [wordT_len] at hlen
  have e1 : wordT (u ++ v) = u := by unfold wordT; rw [take_wordLen]; exact run_self _ u v hlen
  have e2 : wordT (u ++ y) = u := by unfold wordT; rw [take_wordLen]; exact run_swap _ (by decide) (by decide) u v y hlen ha
  unfold wordR
  rw [e1, e2]
theorem head_append (u x y : List UInt8) (h : 0 < u.length) : (u ++ x).head? = (u ++ y).head? := by
  cases u with
  | nil => simp at h
  | cons c t => rfl
theorem take_len_append (u y : List UInt8) : (u ++ y).take u.length = u := by simp
theorem intR_swap (u v y : List UInt8) (hu : 0 < u.length) (he : (intR (u ++ v)).err = 0) (hl : (intR (u ++ v)).len = u.length) (ha : After v y) : intR (u ++ y) = intR (u ++ v) := by
  have hlen : digLen (u ++ v) = u.length := by
    unfold intR at he hl
    split at he
    · simp [RK.bad] at he
    · rename_i h1
      rw [if_neg h1] at hl
      split at he
      · simp [RK.bad] at he
      · rename_i h2; rw [if_neg h2] at hl; exact hl
  have e1 : (u ++ v).takeWhile isDigitB = u := run_self _ u v hlen
  have e2 : (u ++ y).takeWhile isDigitB = u := run_swap _ (by decide) (by decide) u v y hlen ha
  have e3 : digLen (u ++ y) = u.length := by unfold digLen; rw [e2]
  unfold intR
  rw [e3, hlen, head_append u v y hu, take_len_append u y, take_len_append u v]
/-- A literal is read to its end and no further. -/
theorem litGo_swap (v y : List UInt8) : ∀ (u : List UInt8) (n : Nat) (acc : List UInt8), (litGo (u ++ v) n acc).err = 0 → (litGo (u ++ v) n acc).len = n + u.length → litGo (u ++ y) n acc = litGo (u ++ v) n acc
  | [], n, acc, he, hl => by
    have h := litGo_len v.length ([] ++ v) n acc (by simp) he
    simp only [List.length_nil] at hl
    omega
  | c :: t, n, acc, he, hl => by
    rw [List.cons_append] at he hl ⊢
    rw [List.cons_append]
    by_cases h1 : c.toNat = 34
    · rw [litGo_q h1, litGo_q h1]
    · by_cases h2 : c.toNat < 32 ∨ 126 < c.toNat
      · rw [litGo_bad h1 h2] at he; simp [RK.bad] at he
      · by_cases h3 : c.toNat = 92
        · cases t with
          | nil =>
            rw [List.nil_append] at he hl
            cases v with
            | nil => rw [litGo_end h3] at he; simp [RK.bad] at he
            | cons d w =>
              by_cases h4 : d.toNat = 34 ∨ d.toNat = 92
              · rw [litGo_esc h3 h4] at he hl
                have := litGo_len w.length w (n + 2) _ (Nat.le_refl _) he
                simp at hl
                omega
              · by_cases h5 : d.toNat = 110
                · rw [litGo_escn h3 h5] at he hl
                  have := litGo_len w.length w (n + 2) _ (Nat.le_refl _) he
                  simp at hl
                  omega
                · rw [litGo_escx h3 (by omega) (by omega) h5] at he; simp [RK.bad] at he
          | cons d w =>
            rw [List.cons_append] at he hl ⊢
            rw [List.cons_append]
            by_cases h4 : d.toNat = 34 ∨ d.toNat = 92
            · rw [litGo_esc h3 h4] at he hl ⊢
              rw [litGo_esc h3 h4]
              exact litGo_swap v y w _ _ he (by simp at hl; omega)
            · by_cases h5 : d.toNat = 110
              · rw [litGo_escn h3 h5] at he hl ⊢
                rw [litGo_escn h3 h5]
                exact litGo_swap v y w _ _ he (by simp at hl; omega)
              · rw [litGo_escx h3 (by omega) (by omega) h5] at he; simp [RK.bad] at he
        · rw [litGo_ch h1 (by omega) (by omega) h3] at he hl ⊢
          rw [litGo_ch h1 (by omega) (by omega) h3]
          exact litGo_swap v y t _ _ he (by simp at hl; omega)
theorem litR_swap (u v y : List UInt8) (hu : 0 < u.length) (he : (litR (u ++ v)).err = 0) (hl : (litR (u ++ v)).len = u.length) : litR (u ++ y) = litR (u ++ v) := by
  cases u with
  | nil => simp at hu
  | cons c t =>
    unfold litR at he hl ⊢
    simp only [List.cons_append, List.drop_succ_cons, List.drop_zero] at he hl ⊢
    exact litGo_swap v y t 1 [] he (by simp at hl; omega)
theorem markR_swap (u v y : List UInt8) (hu : 0 < u.length) (he : (markR (u ++ v)).err = 0) (hl : (markR (u ++ v)).len = u.length) (ha : After v y) : markR (u ++ y) = markR (u ++ v) := by
  match u, hu with
  | [c], _ =>
    have key : ∀ x, isMarkL (([c] ++ x).take 2) = true → x ≠ [] → (markR ([c] ++ x)).len = 2 := by
      intro x hx hne
      unfold markR
      rw [if_pos hx]
      cases x with
      | nil => exact absurd rfl hne
      | cons d w => rfl
    have one : ∀ x, (x = [] ∨ isMarkL (([c] ++ x).take 2) = false) → isMarkL [c] = true → markR ([c] ++ x) = ⟨0, 5, [c], 1⟩ := by
      intro x hx hc
      unfold markR
      rcases hx with rfl | hx
      · rw [List.append_nil, show [c].take 2 = [c] from rfl, if_pos hc]; rfl
      · rw [hx, if_neg (by simp), show ([c] ++ x).take 1 = [c] from rfl, if_pos hc]
    have hc : isMarkL [c] = true := by
      cases hv : isMarkL (([c] ++ v).take 2)
      · unfold markR at he
        rw [hv, if_neg (by simp), show ([c] ++ v).take 1 = [c] from rfl] at he
        cases h : isMarkL [c]
        · rw [h] at he; simp [RK.bad] at he
        · rfl
      · cases v with
        | nil => exact hv
        | cons d w => rw [key _ hv (by simp)] at hl; simp at hl
    have hv : v = [] ∨ isMarkL (([c] ++ v).take 2) = false := by
      cases v with
      | nil => exact .inl rfl
      | cons d w =>
        right
        cases hv : isMarkL (([c] ++ d :: w).take 2)
        · rfl
        · rw [key _ hv (by simp)] at hl; simp at hl
    rw [one v hv hc]
    apply one y _ hc
    cases y with
    | nil => exact .inl rfl
    | cons d w =>
      right
      show isMarkL [c, d] = false
      have sep : ∀ d : UInt8, d = 32 ∨ d = 10 → isMarkL [c, d] = false := by
        rintro d (rfl | rfl) <;> simp [isMarkL, markL]
      rcases ha with h | h | h | h
      · rcases hv with rfl | hv
        · simp at h
        · cases v with
          | nil => simp at h
          | cons d' w' => simp at h; subst h; exact hv
      · simp at h
      · simp at h; exact sep d (.inl h)
      · simp at h; exact sep d (.inr h)
  | [c, d], _ => rfl
  | c :: d :: e :: t, _ =>
    have : (markR (c :: d :: e :: t ++ v)).len ≤ 2 := by
      unfold markR
      split
      · simp
      · split <;> simp [RK.bad]
    rw [hl] at this
    simp at this
theorem metaN_append (c d : UInt8) (t x : List UInt8) : metaN (c :: d :: t ++ x) = if d = 36 then 2 else 1 := by
  unfold metaN
  simp
theorem nameL_pos (l : List UInt8) (h : nameL l = true) : 0 < l.length := by
  cases l with
  | nil => simp [nameL] at h
  | cons c t => simp
theorem metaR_swap (u v y : List UInt8) (hu : 0 < u.length) (he : (metaR (u ++ v)).err = 0) (hl : (metaR (u ++ v)).len = u.length) (ha : After v y) : metaR (u ++ y) = metaR (u ++ v) := by
  have hn : nameL (metaT (u ++ v)) = true ∧ metaN (u ++ v) + (metaT (u ++ v)).length = u.length := by
    unfold metaR at he hl
    split at he
    · simp [RK.bad] at he
    · rename_i h1
      rw [if_neg h1] at hl
      split at he
      · simp [RK.bad] at he
      · rename_i h2
        rw [if_neg h2] at hl
        exact ⟨by simpa using h1, hl⟩
  obtain ⟨hn, hs⟩ := hn
  have hp := nameL_pos _ hn
  have hN : 1 ≤ metaN (u ++ v) := by unfold metaN; split <;> omega
  match u, hu with
  | [c], _ => simp only [List.length_cons, List.length_nil] at hs; omega
  | c :: d :: t, _ =>
    have e := metaN_append c d t v
    have e' := metaN_append c d t y
    have eN : metaN (c :: d :: t ++ y) = metaN (c :: d :: t ++ v) := by rw [e, e']
    obtain ⟨N, hNe⟩ : ∃ N, metaN (c :: d :: t ++ v) = N := ⟨_, rfl⟩
    rw [hNe] at eN hs hN
    have hNl : N ≤ (c :: d :: t).length := by omega
    have dv : ∀ x, (c :: d :: t ++ x).drop N = (c :: d :: t).drop N ++ x := fun x => by rw [List.drop_append_of_le_length hNl]
    have tl : (metaT (c :: d :: t ++ v)).length = wordLen ((c :: d :: t).drop N ++ v) := by
      unfold metaT
      rw [hNe, dv, List.length_take]
      have := wordLen_le ((c :: d :: t).drop N ++ v)
      omega
    have wl : wordLen ((c :: d :: t).drop N ++ v) = ((c :: d :: t).drop N).length := by rw [List.length_drop]; omega
    have eT : ∀ x, metaN (c :: d :: t ++ x) = N → metaT (c :: d :: t ++ x) = ((c :: d :: t).drop N ++ x).takeWhile isWordB := by
      intro x hx
      unfold metaT
      rw [hx, dv, take_wordLen]
    have t1 := eT v hNe
    have t2 := eT y eN
    rw [run_self _ _ v wl] at t1
    rw [run_swap _ (by decide) (by decide) _ v y wl ha] at t2
    unfold metaR
    rw [t1, t2, eN, hNe]

/-- THE TOKEN's READING: what follows matters by its first byte alone. -/
theorem rd_swap (pat : Bool) (u v y : List UInt8) (hu : 0 < u.length) (he : (rdTok pat (u ++ v)).err = 0) (hl : (rdTok pat (u ++ v)).len = u.length) (ha : After v y) : rdTok pat (u ++ y) = rdTok pat (u ++ v) := by
  cases hu' : u with
  | nil => rw [hu'] at hu; simp at hu
  | cons c t =>
    have e : ∀ x, rdTok pat (c :: t ++ x) = if isLetterI c.toNat then wordR (c :: t ++ x) else if isDigitI c.toNat then intR (c :: t ++ x) else if c.toNat = 34 then litR (c :: t ++ x) else if c.toNat = 36 ∧ pat = true then metaR (c :: t ++ x) else markR (c :: t ++ x) := fun x => rfl
    rw [hu'] at he hl hu
    rw [e v] at he hl ⊢
    rw [e y]
    by_cases h1 : isLetterI c.toNat = true
    · rw [if_pos h1] at he hl ⊢
      rw [if_pos h1]
      exact wordR_swap _ v y he hl ha
    · rw [if_neg h1] at he hl ⊢
      rw [if_neg h1]
      by_cases h2 : isDigitI c.toNat = true
      · rw [if_pos h2] at he hl ⊢
        rw [if_pos h2]
        exact intR_swap _ v y hu he hl ha
      · rw [if_neg h2] at he hl ⊢
        rw [if_neg h2]
        by_cases h3 : c.toNat = 34
        · rw [if_pos h3] at he hl ⊢
          rw [if_pos h3]
          exact litR_swap _ v y hu he hl
        · rw [if_neg h3] at he hl ⊢
          rw [if_neg h3]
          by_cases h4 : c.toNat = 36 ∧ pat = true
          · rw [if_pos h4] at he hl ⊢
            rw [if_pos h4]
            exact metaR_swap _ v y hu he hl ha
          · rw [if_neg h4] at he hl ⊢
            rw [if_neg h4]
            exact markR_swap _ v y hu he hl ha

/-- The tokens of a text that begins at place p; blanks may stand first. -/
def tokS (pat : Bool) (l : List UInt8) (p : Nat) : Option (List Tok) := toks pat (l.drop (skipGo false l)) (p + skipGo false l)
theorem scanR_inv (pat : Bool) (l : List UInt8) (L : List Tok) (off err : Int) (h : scanR pat l = ⟨L, off, err⟩) (he : err = 0) : tokS pat l 0 = some L ∧ L.length ≤ 600 ∧ off = 0 := by
  subst he
  unfold scanR at h
  have hl : (l.drop (skipGo false l)).length < l.length + 1 := by rw [List.length_drop]; omega
  obtain ⟨ts, h1, h2, h3⟩ := scanW_inv pat (l.length + 1) _ (skipGo false l) [] hl (by rw [h]) (by simp)
  rw [h3] at h
  injection h with h4 h5 h6
  simp at h4 h2
  subst h4
  exact ⟨by unfold tokS; rw [Nat.zero_add]; exact h1, h2, h5.symm⟩
theorem scanR_ok (pat : Bool) (l : List UInt8) (L : List Tok) (h : tokS pat l 0 = some L) (hn : L.length ≤ 600) : scanR pat l = ⟨L, 0, 0⟩ := by
  unfold scanR
  unfold tokS at h
  rw [Nat.zero_add] at h
  have := scanW_ok pat (l.length + 1) _ _ [] L (by rw [List.length_drop]; omega) h (by simpa using hn)
  simpa using this
theorem tok_parts (pat : Bool) (l : List UInt8) : l.take (rdTok pat l).len ++ l.drop (rdTok pat l).len = l := List.take_append_drop _ _
/-- A token by itself. -/
theorem rd_own (pat : Bool) (l : List UInt8) (he : (rdTok pat l).err = 0) : rdTok pat (l.take (rdTok pat l).len) = rdTok pat l := by
  have hl := rdTok_len pat l he
  have hu : (l.take (rdTok pat l).len).length = (rdTok pat l).len := by rw [List.length_take]; omega
  have h := rd_swap pat (l.take (rdTok pat l).len) (l.drop (rdTok pat l).len) [] (by omega) (by rw [tok_parts]; exact he) (by rw [tok_parts, hu]) (.inr (.inl rfl))
  rw [tok_parts, List.append_nil] at h
  exact h
/-- A token in front of a line feed. -/
theorem rd_lf (pat : Bool) (l x : List UInt8) (he : (rdTok pat l).err = 0) : rdTok pat (l ++ 10 :: x) = rdTok pat l := by
  have hl := rdTok_len pat l he
  have hu : (l.take (rdTok pat l).len).length = (rdTok pat l).len := by rw [List.length_take]; omega
  have h := rd_swap pat (l.take (rdTok pat l).len) (l.drop (rdTok pat l).len) (l.drop (rdTok pat l).len ++ 10 :: x) (by omega) (by rw [tok_parts]; exact he) (by rw [tok_parts, hu]) (by
    cases hv : l.drop (rdTok pat l).len with
    | nil => exact .inr (.inr (.inr rfl))
    | cons c t => exact .inl rfl)
  rw [← List.append_assoc, tok_parts] at h
  exact h

theorem tokS_cons (pat : Bool) (l : List UInt8) (p : Nat) (t : Tok) (ts : List Tok) (h : tokS pat l p = some (t :: ts)) :
    (rdTok pat (l.drop (skipGo false l))).err = 0 ∧ t = tokAt pat (l.drop (skipGo false l)) (p + skipGo false l) ∧
    tokS pat ((l.drop (skipGo false l)).drop (rdTok pat (l.drop (skipGo false l))).len) (p + skipGo false l + (rdTok pat (l.drop (skipGo false l))).len) = some ts := by
  unfold tokS at h
  by_cases hl : l.drop (skipGo false l) = []
  · rw [hl, toks_nil] at h; simp at h
  · by_cases he : (rdTok pat (l.drop (skipGo false l))).err = 0
    · rw [toks_cons pat _ _ hl he] at h
      obtain ⟨ts', h1, h2⟩ := Option.map_eq_some_iff.1 h
      injection h2 with h3 h4
      subst h4
      refine ⟨he, h3.symm, ?_⟩
      unfold tokS
      unfold restL stepN gapN at h1
      rw [← Nat.add_assoc] at h1
      exact h1
    · rw [toks_err pat _ _ hl he] at h; cases h
theorem tokS_nil (pat : Bool) (l : List UInt8) (p : Nat) (h : tokS pat l p = some []) : skipGo false l = l.length := by
  unfold tokS at h
  have hs := skipGo_le l false
  by_cases hl : l.drop (skipGo false l) = []
  · have := congrArg List.length hl
    rw [List.length_drop] at this
    simp at this
    omega
  · by_cases he : (rdTok pat (l.drop (skipGo false l))).err = 0
    · rw [toks_cons pat _ _ hl he] at h
      obtain ⟨ts', h1, h2⟩ := Option.map_eq_some_iff.1 h
      cases h2
    · rw [toks_err pat _ _ hl he] at h; cases h

theorem tokS_lf (pat : Bool) (x : List UInt8) : ∀ (ts : List Tok) (l : List UInt8) (p : Nat), tokS pat l p = some ts → tokS pat (l ++ 10 :: x) p = (tokS pat x (p + l.length + 1)).map (ts ++ ·)
  | [], l, p, h => by
    have hk := tokS_nil pat l p h
    unfold tokS
    rw [skip_lf x l false, if_pos hk]
    rw [show (l ++ 10 :: x).drop (l.length + 1 + skipGo false x) = x.drop (skipGo false x) from by
      rw [← List.drop_drop, ← List.drop_drop, List.drop_left]; rfl]
    rw [show p + (l.length + 1 + skipGo false x) = p + l.length + 1 + skipGo false x from by omega]
    simp
  | t :: ts, l, p, h => by
    obtain ⟨he, rfl, h2⟩ := tokS_cons pat l p t ts h
    have hs := skipGo_le l false
    have hl := rdTok_len pat _ he
    rw [List.length_drop] at hl
    have ih := tokS_lf pat x ts _ _ h2
    have hd : (l ++ 10 :: x).drop (skipGo false l) = l.drop (skipGo false l) ++ 10 :: x := List.drop_append_of_le_length hs
    have hr := rd_lf pat (l.drop (skipGo false l)) x he
    have e0 : skipGo false (l ++ 10 :: x) = skipGo false l := by rw [skip_lf x l false, if_neg (by omega)]
    have hne : l.drop (skipGo false l) ++ 10 :: x ≠ [] := by simp
    have dd : (l.drop (skipGo false l) ++ 10 :: x).drop (rdTok pat (l.drop (skipGo false l))).len = (l.drop (skipGo false l)).drop (rdTok pat (l.drop (skipGo false l))).len ++ 10 :: x := List.drop_append_of_le_length (by rw [List.length_drop]; omega)
    unfold tokS
    rw [e0, hd, toks_cons pat _ _ hne (by rw [hr]; exact he)]
    unfold restL stepN gapN
    rw [hr, dd, ← Nat.add_assoc]
    unfold tokS at ih
    rw [ih, Option.map_map]
    have e1 : ((l.drop (skipGo false l)).drop (rdTok pat (l.drop (skipGo false l))).len).length + (skipGo false l + (rdTok pat (l.drop (skipGo false l))).len) = l.length := by
      rw [List.length_drop, List.length_drop]; omega
    rw [show p + skipGo false l + (rdTok pat (l.drop (skipGo false l))).len + ((l.drop (skipGo false l)).drop (rdTok pat (l.drop (skipGo false l))).len).length + 1 = p + l.length + 1 from by omega]
    have e2 : tokAt pat (l.drop (skipGo false l) ++ 10 :: x) (p + skipGo false l) = tokAt pat (l.drop (skipGo false l)) (p + skipGo false l) := by unfold tokAt; rw [hr]
    rw [e2]
    congr 1

def Tok.shift (d : Nat) (t : Tok) : Tok := ⟨t.kind, t.text, t.at_ + d, t.end_ + d⟩
theorem toks_shift (pat : Bool) (d : Nat) : ∀ (n : Nat) (l : List UInt8) (p : Nat), l.length ≤ n → toks pat l (p + d) = (toks pat l p).map (List.map (Tok.shift d))
  | 0, l, p, hn => by
    obtain rfl := List.eq_nil_of_length_eq_zero (Nat.le_zero.1 hn)
    rw [toks_nil, toks_nil]; rfl
  | n + 1, l, p, hn => by
    by_cases hl : l = []
    · subst hl; rw [toks_nil, toks_nil]; rfl
    · by_cases he : (rdTok pat l).err = 0
      · have hr := restL_lt pat l he
        rw [toks_cons pat l _ hl he, toks_cons pat l p hl he, Option.map_map, show p + d + stepN pat l = p + stepN pat l + d from by omega, toks_shift pat d n _ _ (by omega), Option.map_map]
        congr 1
        funext ts
        simp only [Function.comp, List.map_cons]
        congr 1
        simp only [tokAt, Tok.shift]
        congr 1 <;> omega
      · rw [toks_err pat l _ hl he, toks_err pat l p hl he]; rfl
theorem tokS_shift (pat : Bool) (d : Nat) (l : List UInt8) (p : Nat) : tokS pat l (p + d) = (tokS pat l p).map (List.map (Tok.shift d)) := by
  unfold tokS
  rw [show p + d + skipGo false l = p + skipGo false l + d from by omega]
  exact toks_shift pat d _ _ _ (Nat.le_refl _)
/-- THE PIECES. -/
theorem pieces (pat : Bool) (l x : List UInt8) (a b : List Tok) (ha : scanR pat l = ⟨a, 0, 0⟩) (hb : scanR pat x = ⟨b, 0, 0⟩) (hn : a.length + b.length ≤ 600) :
    scanR pat (l ++ 10 :: x) = ⟨a ++ b.map (Tok.shift (l.length + 1)), 0, 0⟩ := by
  obtain ⟨h1, _, _⟩ := scanR_inv pat l a 0 0 ha rfl
  obtain ⟨h2, _, _⟩ := scanR_inv pat x b 0 0 hb rfl
  apply scanR_ok
  · rw [tokS_lf pat x a l 0 h1, show 0 + l.length + 1 = 0 + (l.length + 1) from by omega, tokS_shift, h2]
    rfl
  · simpa using hn

theorem skip_first (c : UInt8) (t : List UInt8) (hb : blankI c.toNat = false) (h : c.toNat ≠ 47) : skipGo false (c :: t) = 0 := by
  rw [skipF, hb, if_neg (by simp), if_neg (fun e => h e.1)]
theorem letter_first {c : UInt8} (h : isLetterI c.toNat = true) : blankI c.toNat = false ∧ c.toNat ≠ 47 := by
  unfold isLetterI at h
  unfold blankI
  constructor
  · rw [Bool.eq_false_iff]; intro h2; simp at h h2; omega
  · intro h2; simp at h; omega
theorem digit_first {c : UInt8} (h : isDigitI c.toNat = true) : blankI c.toNat = false ∧ c.toNat ≠ 47 ∧ isLetterI c.toNat = false := by
  unfold isDigitI at h
  unfold blankI isLetterI
  refine ⟨?_, ?_, ?_⟩
  · rw [Bool.eq_false_iff]; intro h2; simp at h h2; omega
  · intro h2; simp at h; omega
  · rw [Bool.eq_false_iff]; intro h2; simp at h h2; omega
theorem rd_letter (pat : Bool) (c : UInt8) (t : List UInt8) (h : isLetterI c.toNat = true) : rdTok pat (c :: t) = wordR (c :: t) := by
  unfold rdTok; simp only; rw [if_pos h]
theorem rd_digit (pat : Bool) (c : UInt8) (t : List UInt8) (h : isDigitI c.toNat = true) : rdTok pat (c :: t) = intR (c :: t) := by
  unfold rdTok; simp only; rw [(digit_first h).2.2, if_neg (by simp), if_pos h]
theorem rd_quote (pat : Bool) (t : List UInt8) : rdTok pat (34 :: t) = litR (34 :: t) := by
  unfold rdTok; simp only; rw [if_neg (by decide), if_neg (by decide), if_pos (by decide)]
theorem rd_meta (t : List UInt8) : rdTok true (36 :: t) = metaR (36 :: t) := by
  unfold rdTok; simp only; rw [if_neg (by decide), if_neg (by decide), if_neg (by decide), if_pos (by decide)]
/-- The inside of a literal is read back. -/
theorem esc_back (y : List UInt8) : ∀ (l e : List UInt8) (n : Nat) (acc : List UInt8), escO l = some e → litGo (e ++ y) n acc = litGo y (n + e.length) (acc ++ l)
  | [], e, n, acc, h => by
    cases h
    simp
  | c :: t, e, n, acc, h => by
    by_cases h1 : c.toNat = 34 ∨ c.toNat = 92
    · rw [escO_esc c t h1] at h
      obtain ⟨e', h', rfl⟩ := Option.map_eq_some_iff.1 h
      rw [List.cons_append, List.cons_append, litGo_esc (by decide) h1, esc_back y t e' _ _ h', List.append_assoc, List.length_cons, List.length_cons, show n + 2 + e'.length = n + (e'.length + 1 + 1) from by omega]
      rfl
    · by_cases h2 : c.toNat = 10
      · rw [escO_n c t h2] at h
        obtain ⟨e', h', rfl⟩ := Option.map_eq_some_iff.1 h
        obtain rfl : c = 10 := UInt8.toNat_inj.1 h2
        rw [List.cons_append, List.cons_append, litGo_escn (by decide) (by decide), esc_back y t e' _ _ h', List.append_assoc, List.length_cons, List.length_cons, show n + 2 + e'.length = n + (e'.length + 1 + 1) from by omega]
        rfl
      · by_cases h3 : c.toNat < 32 ∨ 126 < c.toNat
        · rw [escO_no c t h2 h3] at h; cases h
        · rw [escO_ch c t (by omega) (by omega) (by omega) (by omega)] at h
          obtain ⟨e', h', rfl⟩ := Option.map_eq_some_iff.1 h
          rw [List.cons_append, litGo_ch (by omega) (by omega) (by omega) (by omega), esc_back y t e' _ _ h', List.append_assoc, List.length_cons, show n + 1 + e'.length = n + (e'.length + 1) from by omega]
          rfl

theorem nameL_parts (l : List UInt8) (h : nameL l = true) : ∃ c t, l = c :: t ∧ isLetterI c.toNat = true ∧ wordLen l = l.length ∧ isKwL l = false := by
  cases l with
  | nil => simp [nameL] at h
  | cons c t =>
    unfold nameL at h
    simp only [Bool.and_eq_true, beq_iff_eq, Bool.not_eq_true'] at h
    exact ⟨c, t, rfl, h.1.1, h.1.2, h.2⟩
theorem shortL_parts (l : List UInt8) (h : shortL l = true) : nameL l = true ∧ l.length ≤ 24 := by
  unfold shortL at h
  rw [Bool.and_eq_true, decide_eq_true_eq] at h
  exact h
theorem wordT_self (l : List UInt8) (h : wordLen l = l.length) : wordT l = l := by unfold wordT; rw [h, List.take_length]
theorem kw_rd : ∀ m ∈ kwL, ∀ pat, rdTok pat m = ⟨0, 2, m, m.length⟩ := by decide +kernel
theorem mark_rd : ∀ m ∈ markL, ∀ pat, rdTok pat m = ⟨0, 5, m, m.length⟩ := by decide +kernel
theorem kw_first : ∀ m ∈ kwL, (match m with | [] => false | c :: _ => isLetterI c.toNat) = true := by decide +kernel
theorem mark_first : ∀ m ∈ markL, m = [47] ∨ (match m with | [] => false | c :: _ => !blankI c.toNat && decide (c.toNat ≠ 47)) = true := by decide +kernel
theorem isKwL_mem {l : List UInt8} (h : isKwL l = true) : l ∈ kwL := by
  unfold isKwL at h
  rw [List.any_eq_true] at h
  obtain ⟨x, hx, he⟩ := h
  rw [beq_iff_eq.1 he]
  exact hx
theorem isMarkL_mem {l : List UInt8} (h : isMarkL l = true) : l ∈ markL := by
  unfold isMarkL at h
  rw [List.any_eq_true] at h
  obtain ⟨x, hx, he⟩ := h
  rw [beq_iff_eq.1 he]
  exact hx

/-- What may stand behind a printed token. -/
def Behind (y : List UInt8) : Prop := y.head? = none ∨ y.head? = some 32
/-- A printed token is read as it was; no blank and no comment begins there. -/
def Reads (pat : Bool) (k : Int) (l o : List UInt8) : Prop := rdTok pat o = ⟨0, k, l, o.length⟩ ∧ 0 < o.length ∧ ∀ y, Behind y → skipGo false (o ++ y) = 0
theorem reads_first (pat : Bool) (k : Int) (l : List UInt8) (c : UInt8) (t : List UInt8) (h : rdTok pat (c :: t) = ⟨0, k, l, (c :: t).length⟩) (hb : blankI c.toNat = false) (h47 : c.toNat ≠ 47) : Reads pat k l (c :: t) :=
  ⟨h, by simp, fun y _ => by rw [List.cons_append]; exact skip_first c _ hb h47⟩
theorem rd_out (pat : Bool) (k : Int) (l o : List UInt8) (h : textO k l = some o) (hp : k = 6 ∨ k = 7 → pat = true) : Reads pat k l o := by
  unfold textO at h
  split at h
  · rename_i hk
    subst hk
    split at h
    · rename_i hs
      cases h
      obtain ⟨hn, h24⟩ := shortL_parts l hs
      obtain ⟨c, t, rfl, hl, hw, hkw⟩ := nameL_parts l hn
      apply reads_first pat 1 _ c t _ (letter_first hl).1 (letter_first hl).2
      rw [rd_letter pat c t hl]
      unfold wordR
      rw [wordT_self _ hw, hkw, if_neg (by simp), if_neg (by omega)]
    · cases h
  split at h
  · rename_i hk
    subst hk
    split at h
    · rename_i hs
      cases h
      have hm := isKwL_mem hs
      have hf := kw_first l hm
      cases l with
      | nil => cases hf
      | cons c t => exact reads_first pat 2 _ c t (kw_rd _ hm pat) (letter_first hf).1 (letter_first hf).2
    · cases h
  split at h
  · rename_i hk
    subst hk
    split at h
    · rename_i hs
      cases h
      cases l with
      | nil => simp [intOk] at hs
      | cons c t =>
        unfold intOk at hs
        simp only [Bool.and_eq_true, decide_eq_true_eq] at hs
        obtain ⟨⟨hd, he⟩, ht⟩ := hs
        apply reads_first pat 3 _ c t _ (digit_first hd).1 (digit_first hd).2.1
        rw [rd_digit pat c t hd]
        unfold intR at he ht ⊢
        split at he
        · simp [RK.bad] at he
        · rename_i h1
          rw [if_neg h1] at ht ⊢
          split at he
          · simp [RK.bad] at he
          · rename_i h2
            rw [if_neg h2] at ht ⊢
            simp only at ht
            have := congrArg List.length ht
            rw [List.length_take] at this
            have h3 := digLen_le (c :: t)
            rw [ht, show digLen (c :: t) = (c :: t).length from by omega]
    · cases h
  split at h
  · rename_i hk
    subst hk
    unfold quoteO at h
    split at h
    · cases h
    · rename_i h60
      obtain ⟨e, he, rfl⟩ := Option.map_eq_some_iff.1 h
      apply reads_first pat 4 l 34 (e ++ [34]) _ (by decide) (by decide)
      rw [rd_quote]
      unfold litR
      rw [List.drop_succ_cons, List.drop_zero, esc_back [34] l e 1 [] he, litGo_q (by decide), List.nil_append, if_neg (by omega)]
      simp
      omega
  split at h
  · rename_i hk
    subst hk
    split at h
    · rename_i hs
      cases h
      have hm := isMarkL_mem hs
      rcases mark_first l hm with rfl | hf
      · refine ⟨mark_rd _ hm pat, by simp, fun y hy => ?_⟩
        rw [List.cons_append, List.nil_append, skipF, if_neg (by decide), if_neg]
        rintro ⟨_, h2⟩
        rcases hy with h3 | h3 <;> rw [h3] at h2 <;> simp at h2
      · cases l with
        | nil => cases hf
        | cons c t =>
          simp only [Bool.and_eq_true, Bool.not_eq_true', decide_eq_true_eq] at hf
          exact reads_first pat 5 _ c t (mark_rd _ hm pat) hf.1 hf.2
    · cases h
  split at h
  · rename_i hk
    subst hk
    obtain rfl := hp (.inl rfl)
    split at h
    · rename_i hs
      cases h
      obtain ⟨hn, h24⟩ := shortL_parts l hs
      apply reads_first true 6 l 36 l _ (by decide) (by decide)
      rw [rd_meta]
      obtain ⟨c, t, rfl, hl, hw, hkw⟩ := nameL_parts l hn
      have hN : metaN (36 :: c :: t) = 1 := by
        unfold metaN
        rw [if_neg]
        intro e
        simp at e
        subst e
        exact absurd hl (by decide)
      have hT : metaT (36 :: c :: t) = c :: t := by
        unfold metaT
        rw [hN]
        exact wordT_self _ hw
      unfold metaR
      rw [hT, hN, hn, if_neg (by simp), if_neg (by omega)]
      simp
      omega
    · cases h
  split at h
  · rename_i hk
    subst hk
    obtain rfl := hp (.inr rfl)
    split at h
    · rename_i hs
      cases h
      obtain ⟨hn, h24⟩ := shortL_parts l hs
      apply reads_first true 7 l 36 (36 :: l) _ (by decide) (by decide)
      rw [rd_meta]
      obtain ⟨c, t, rfl, hl, hw, hkw⟩ := nameL_parts l hn
      have hN : metaN (36 :: 36 :: c :: t) = 2 := by
        unfold metaN
        rw [if_pos (by simp)]
      have hT : metaT (36 :: 36 :: c :: t) = c :: t := by
        unfold metaT
        rw [hN]
        exact wordT_self _ hw
      unfold metaR
      rw [hT, hN, hn, if_neg (by simp), if_neg (by omega)]
      simp
      omega
    · cases h
  · cases h

theorem tokS_out (pat : Bool) (k : Int) (l o y : List UInt8) (p : Nat) (R : Reads pat k l o) (hy : Behind y) : tokS pat (o ++ y) p = (tokS pat y (p + o.length)).map (⟨k, tx l, p, (p + o.length : Nat)⟩ :: ·) := by
  obtain ⟨h1, h2, h3⟩ := R
  have hr : rdTok pat (o ++ y) = rdTok pat o := by
    have h := rd_swap pat o [] y h2 (by rw [List.append_nil, h1]) (by rw [List.append_nil, h1]) (by rcases hy with h | h; exact .inr (.inl h); exact .inr (.inr (.inl h)))
    rw [List.append_nil] at h
    exact h
  unfold tokS
  rw [h3 y hy, List.drop_zero, Nat.add_zero, toks_cons pat _ _ (by intro e; have := congrArg List.length e; rw [List.length_append, List.length_nil] at this; omega) (by rw [hr, h1])]
  have e1 : restL pat (o ++ y) = y.drop (skipGo false y) := by unfold restL gapN; rw [hr, h1]; simp
  have e2 : stepN pat (o ++ y) = o.length + skipGo false y := by unfold stepN gapN; rw [hr, h1]; simp
  have e3 : tokAt pat (o ++ y) p = ⟨k, tx l, p, (p + o.length : Nat)⟩ := by unfold tokAt; rw [hr, h1]
  rw [e1, e2, e3, Nat.add_assoc]
theorem tokS_blank (pat : Bool) (J : List UInt8) (p : Nat) : tokS pat (32 :: J) p = tokS pat J (p + 1) := by
  unfold tokS
  rw [skipF, if_pos (by decide), List.drop_succ_cons, show p + (skipGo false J + 1) = p + 1 + skipGo false J from by omega]
def tailL : List (List UInt8) → List UInt8
  | [] => []
  | a :: t => 32 :: joinL (a :: t)
theorem joinL_cons (o : List UInt8) (os : List (List UInt8)) : joinL (o :: os) = o ++ tailL os := by
  cases os with
  | nil => simp [joinL, tailL]
  | cons a t => rfl
theorem tailL_behind (os : List (List UInt8)) : Behind (tailL os) := by
  cases os with
  | nil => exact .inl rfl
  | cons a t => exact .inr rfl
theorem outs_parts (x : Tok) (t : List Tok) (os : List (List UInt8)) (h : outs (x :: t) = some os) : ∃ o os', os = o :: os' ∧ x.out = some o ∧ outs t = some os' := by
  rw [outs] at h
  split at h
  · rename_i a l h1 h2
    cases h
    exact ⟨a, l, rfl, h1, h2⟩
  · cases h

/-- THE ROUND TRIP. -/
theorem back (pat : Bool) : ∀ (xs : List Tok) (os : List (List UInt8)) (p : Nat), outs xs = some os → (∀ x ∈ xs, x.kind = 6 ∨ x.kind = 7 → pat = true) →
    ∃ ts, tokS pat (joinL os) p = some ts ∧ ts.map (fun t => (t.kind, t.text)) = xs.map (fun t => (t.kind, t.text))
  | [], os, p, h, hp => by
    cases h
    exact ⟨[], by simp [joinL, tokS, skipGo, toks_nil], rfl⟩
  | x :: t, os, p, h, hp => by
    obtain ⟨o, os', rfl, h1, h2⟩ := outs_parts x t os h
    have R := rd_out pat x.kind x.text.data.toList o h1 (hp x (by simp))
    rw [joinL_cons, tokS_out pat _ _ o (tailL os') p R (tailL_behind os')]
    cases t with
    | nil =>
      rw [outs] at h2
      cases h2
      refine ⟨[⟨x.kind, tx x.text.data.toList, p, (p + o.length : Nat)⟩], by simp [tailL, tokS, skipGo, toks_nil], ?_⟩
      rfl
    | cons x2 t2 =>
      obtain ⟨ts, h3, h4⟩ := back pat (x2 :: t2) os' (p + o.length + 1) h2 (fun y hy => hp y (by simp [List.mem_cons.1 hy]))
      obtain ⟨o2, os2, rfl, _, _⟩ := outs_parts x2 t2 os' h2
      refine ⟨⟨x.kind, tx x.text.data.toList, p, (p + o.length : Nat)⟩ :: ts, ?_, ?_⟩
      · rw [show tailL (o2 :: os2) = 32 :: joinL (o2 :: os2) from rfl, tokS_blank, h3]
        rfl
      · rw [List.map_cons, List.map_cons, h4]
        rfl
theorem back_scan (pat : Bool) (xs : List Tok) (os : List (List UInt8)) (h : outs xs = some os) (hp : ∀ x ∈ xs, x.kind = 6 ∨ x.kind = 7 → pat = true) (hn : xs.length ≤ 600) :
    ∃ ts, scanR pat (joinL os) = ⟨ts, 0, 0⟩ ∧ ts.map (fun t => (t.kind, t.text)) = xs.map (fun t => (t.kind, t.text)) := by
  obtain ⟨ts, h1, h2⟩ := back pat xs os 0 h hp
  have hl := congrArg List.length h2
  simp at hl
  exact ⟨ts, scanR_ok pat _ ts h1 (by omega), h2⟩

def goodB (c : UInt8) : Prop := c.toNat = 10 ∨ (32 ≤ c.toNat ∧ c.toNat ≤ 126)
theorem esc_good : ∀ l : List UInt8, (∀ c ∈ l, goodB c) → ∃ e, escO l = some e
  | [], _ => ⟨[], rfl⟩
  | c :: t, h => by
    obtain ⟨e, he⟩ := esc_good t (fun d hd => h d (by simp [hd]))
    have hc := h c (by simp)
    unfold goodB at hc
    by_cases h1 : c.toNat = 34 ∨ c.toNat = 92
    · rw [escO_esc c t h1, he]; exact ⟨_, rfl⟩
    · by_cases h2 : c.toNat = 10
      · rw [escO_n c t h2, he]; exact ⟨_, rfl⟩
      · rw [escO_ch c t (by omega) (by omega) (by omega) (by omega), he]; exact ⟨_, rfl⟩
theorem snoc_good {acc : List UInt8} {d : UInt8} (h : ∀ c ∈ acc, goodB c) (hd : goodB d) : ∀ c ∈ acc ++ [d], goodB c := by
  intro c hc
  rcases List.mem_append.1 hc with h1 | h1
  · exact h c h1
  · rw [List.mem_singleton.1 h1]; exact hd
theorem lit_good : ∀ (m : Nat) (l : List UInt8) (n : Nat) (acc : List UInt8), l.length ≤ m → (∀ c ∈ acc, goodB c) → (litGo l n acc).err = 0 →
    (litGo l n acc).kind = 4 ∧ (litGo l n acc).text.length ≤ 60 ∧ ∀ c ∈ (litGo l n acc).text, goodB c
  | 0, [], n, acc, _, _, h => by simp [litGo, RK.bad] at h
  | 0, c :: t, n, acc, hk, _, h => by simp at hk
  | k + 1, [], n, acc, _, _, h => by simp [litGo, RK.bad] at h
  | k + 1, c :: t, n, acc, hk, ha, h => by
    simp only [List.length_cons] at hk
    by_cases h1 : c.toNat = 34
    · rw [litGo_q h1] at h ⊢
      split at h
      · simp [RK.bad] at h
      · rename_i hx
        rw [if_neg hx]
        exact ⟨rfl, by simp only; omega, ha⟩
    · by_cases h2 : c.toNat < 32 ∨ 126 < c.toNat
      · rw [litGo_bad h1 h2] at h; simp [RK.bad] at h
      · by_cases h3 : c.toNat = 92
        · cases t with
          | nil => rw [litGo_end h3] at h; simp [RK.bad] at h
          | cons d u =>
            simp only [List.length_cons] at hk
            by_cases h4 : d.toNat = 34 ∨ d.toNat = 92
            · rw [litGo_esc h3 h4] at h ⊢
              exact lit_good k u (n + 2) _ (by omega) (snoc_good ha (by unfold goodB; omega)) h
            · by_cases h5 : d.toNat = 110
              · rw [litGo_escn h3 h5] at h ⊢
                exact lit_good k u (n + 2) _ (by omega) (snoc_good ha (.inl rfl)) h
              · rw [litGo_escx h3 (by omega) (by omega) h5] at h; simp [RK.bad] at h
        · rw [litGo_ch h1 (by omega) (by omega) h3] at h ⊢
          exact lit_good k t (n + 1) _ (by omega) (snoc_good ha (by unfold goodB; omega)) h
theorem wordT_again (l : List UInt8) : wordLen (wordT l) = (wordT l).length := by
  have h : ∀ l : List UInt8, ((l.takeWhile isWordB).takeWhile isWordB) = l.takeWhile isWordB := by
    intro l
    induction l with
    | nil => rfl
    | cons a l ih =>
      rw [List.takeWhile_cons]
      cases ha : isWordB a
      · rfl
      · rw [if_pos rfl, List.takeWhile_cons, ha, if_pos rfl, ih]
  unfold wordT
  rw [take_wordLen]
  unfold wordLen
  rw [h]
theorem short_out {l : List UInt8} (hn : nameL l = true) (h24 : ¬ 24 < l.length) : shortL l = true := by
  unfold shortL
  rw [hn, Bool.true_and, decide_eq_true_eq]
  omega
theorem out_of_rd (pat : Bool) (l : List UInt8) (he : (rdTok pat l).err = 0) : ∃ o, textO (rdTok pat l).kind (rdTok pat l).text = some o := by
  cases l with
  | nil => simp [rdTok, RK.bad] at he
  | cons c t =>
    have hown := rd_own pat (c :: t) he
    have hlen := rdTok_len pat (c :: t) he
    by_cases h1 : isLetterI c.toNat = true
    · rw [rd_letter pat c t h1] at he ⊢
      unfold wordR at he ⊢
      by_cases h2 : isKwL (wordT (c :: t)) = true
      · rw [if_pos h2]
        exact ⟨_, by simp only [textO, Int.reduceEq, if_false, if_true]; rw [if_pos h2]⟩
      · rw [if_neg h2] at he ⊢
        by_cases h3 : 24 < (wordT (c :: t)).length
        · rw [if_pos h3] at he; simp [RK.bad] at he
        · rw [if_neg h3]
          have hn : nameL (wordT (c :: t)) = true := by
            have hw := wordT_again (c :: t)
            have hp := wordLen_pos c t h1
            have e : wordT (c :: t) = c :: t.take (wordLen (c :: t) - 1) := by
              unfold wordT
              obtain ⟨n, hn⟩ : ∃ n, wordLen (c :: t) = n + 1 := ⟨wordLen (c :: t) - 1, by omega⟩
              rw [hn]; rfl
            unfold nameL
            rw [hw, Bool.eq_false_iff.2 h2, e]
            simp [h1]
          exact ⟨_, by simp only [textO, if_true]; rw [if_pos (short_out hn h3)]⟩
    · by_cases h2 : isDigitI c.toNat = true
      · have hi := rd_digit pat c t h2
        rw [hi] at he hown hlen ⊢
        obtain ⟨n, hn⟩ : ∃ n, (intR (c :: t)).len = n + 1 := ⟨(intR (c :: t)).len - 1, by omega⟩
        rw [hn, List.take_succ_cons, rd_digit pat c _ h2] at hown
        have hk : (intR (c :: t)).kind = 3 ∧ (intR (c :: t)).text = c :: t.take n := by
          unfold intR at he hn ⊢
          split at he
          · simp [RK.bad] at he
          · rename_i q1
            rw [if_neg q1] at hn ⊢
            split at he
            · simp [RK.bad] at he
            · rename_i q2
              rw [if_neg q2] at hn ⊢
              simp only at hn
              exact ⟨rfl, by simp only [hn]; rfl⟩
        obtain ⟨k1, k2⟩ := hk
        have hok : intOk (c :: t.take n) = true := by
          unfold intOk
          simp only [hown, Bool.and_eq_true, decide_eq_true_eq]
          exact ⟨⟨h2, he⟩, k2⟩
        rw [k1, k2]
        exact ⟨_, by simp only [textO, Int.reduceEq, if_false, if_true]; rw [if_pos hok]⟩
      · by_cases h3 : c.toNat = 34
        · obtain rfl : c = 34 := UInt8.toNat_inj.1 h3
          rw [rd_quote] at he ⊢
          unfold litR at he ⊢
          obtain ⟨k1, k2, k3⟩ := lit_good _ _ 1 [] (Nat.le_refl _) (by simp) he
          obtain ⟨e, hesc⟩ := esc_good _ k3
          rw [k1]
          exact ⟨_, by simp only [textO, Int.reduceEq, if_false, if_true]; unfold quoteO; rw [if_neg (by omega), hesc]; rfl⟩
        · by_cases h4 : c.toNat = 36 ∧ pat = true
          · obtain ⟨h4, rfl⟩ := h4
            obtain rfl : c = 36 := UInt8.toNat_inj.1 h4
            rw [rd_meta] at he ⊢
            unfold metaR at he ⊢
            split at he
            · simp [RK.bad] at he
            · rename_i q1
              rw [if_neg q1]
              split at he
              · simp [RK.bad] at he
              · rename_i q2
                rw [if_neg q2]
                have hs := short_out (by simpa using q1) q2
                by_cases q3 : metaN (36 :: t) = 2
                · rw [if_pos q3]
                  exact ⟨_, by simp only [textO, Int.reduceEq, if_false, if_true]; rw [if_pos hs]⟩
                · rw [if_neg q3]
                  exact ⟨_, by simp only [textO, Int.reduceEq, if_false, if_true]; rw [if_pos hs]⟩
          · have hm : rdTok pat (c :: t) = markR (c :: t) := by unfold rdTok; simp only; rw [if_neg h1, if_neg h2, if_neg h3, if_neg h4]
            rw [hm] at he ⊢
            unfold markR at he ⊢
            split at he
            · rename_i q1
              rw [if_pos q1]
              exact ⟨_, by simp only [textO, Int.reduceEq, if_false, if_true]; rw [if_pos q1]⟩
            · rename_i q1
              rw [if_neg q1]
              split at he
              · rename_i q2
                rw [if_pos q2]
                exact ⟨_, by simp only [textO, Int.reduceEq, if_false, if_true]; rw [if_pos q2]⟩
              · simp [RK.bad] at he
theorem outs_of_toks (pat : Bool) : ∀ (ts : List Tok) (l : List UInt8) (p : Nat), tokS pat l p = some ts → ∃ os, outs ts = some os
  | [], l, p, h => ⟨[], rfl⟩
  | t :: ts, l, p, h => by
    obtain ⟨he, rfl, h2⟩ := tokS_cons pat l p t ts h
    obtain ⟨o, ho⟩ := out_of_rd pat _ he
    obtain ⟨os, hos⟩ := outs_of_toks pat ts _ _ h2
    refine ⟨o :: os, ?_⟩
    rw [outs, show (tokAt pat (l.drop (skipGo false l)) (p + skipGo false l)).out = some o from ho, hos]
/-- What a scan gives can be printed, and is read again. -/
theorem again (pat : Bool) (l : List UInt8) (L : List Tok) (off : Int) (h : scanR pat l = ⟨L, off, 0⟩) (hp : pat = true) :
    ∃ os ts, outs L = some os ∧ scanR pat (joinL os) = ⟨ts, 0, 0⟩ ∧ ts.map (fun t => (t.kind, t.text)) = L.map (fun t => (t.kind, t.text)) := by
  obtain ⟨h1, h2, h3⟩ := scanR_inv pat l L off 0 h rfl
  obtain ⟨os, hos⟩ := outs_of_toks pat L l 0 h1
  obtain ⟨ts, h4, h5⟩ := back_scan pat L os hos (fun _ _ _ => hp) h2
  exact ⟨os, ts, hos, h4, h5⟩
end Go.Ev.Bk
set_option linter.unusedSectionVars false
set_option maxRecDepth 4000
namespace Go.Ev
open PV
/-- Sources whose tokens have the same kinds and texts. -/
structure SimS (S S' : Src) : Prop where
  len : S.T.length = S'.T.length
  kind : ∀ i, (peekT S.T S.sz i).kind = (peekT S'.T S'.sz i).kind
  text : ∀ i, (peekT S.T S.sz i).text = (peekT S'.T S'.sz i).text
theorem peek_sz (T : List Tok) (a b : Int) (i : Nat) : (peekT T a i).kind = (peekT T b i).kind ∧ (peekT T a i).text = (peekT T b i).text := by
  unfold peekT
  split <;> exact ⟨rfl, rfl⟩
theorem SimS.isT {S S' : Src} (h : SimS S S') (nx : Nat) (t : ByteArray) : Ev.isT S.T nx t = Ev.isT S'.T nx t := by
  unfold Ev.isT
  rw [(peek_sz S.T 0 S.sz nx).1, (peek_sz S.T 0 S.sz nx).2, (peek_sz S'.T 0 S'.sz nx).1, (peek_sz S'.T 0 S'.sz nx).2, h.kind, h.text]
/-- Trees that are the same up to their places. -/
def SmT (x y : Tree) : Prop := sameT false x y = true
def SmL (l l' : List Tree) : Prop := l.length = l'.length ∧ sameL false l l' = true
theorem SmT.kind {x y : Tree} (h : SmT x y) : x.kind = y.kind := by
  unfold SmT at h
  rw [sameT_eq, Bool.and_eq_true, Bool.and_eq_true] at h
  exact beq_iff_eq.1 h.1.1
theorem SmT.text {x y : Tree} (h : SmT x y) : x.text.toList = y.text.toList := by
  unfold SmT at h
  rw [sameT_eq, Bool.and_eq_true, Bool.and_eq_true] at h
  exact beq_iff_eq.1 h.1.2
theorem SmT.kids {x y : Tree} (h : SmT x y) : SmL x.kids y.kids := by
  unfold SmT at h
  rw [sameT_eq, Bool.and_eq_true, Bool.and_eq_true, Bool.and_eq_true, Bool.and_eq_true] at h
  exact ⟨beq_iff_eq.1 h.2.2.1, h.2.2.2⟩
theorem SmT.of {x y : Tree} (h1 : x.kind = y.kind) (h2 : x.text.toList = y.text.toList) (h3 : SmL x.kids y.kids) : SmT x y := by
  unfold SmT
  rw [sameT_eq, h1, h2, h3.1, h3.2]
  simp
theorem SmT.mk {kd a a' e e' : Int} {t : ByteArray} {ks ks' : List Tree} (h : SmL ks ks') : SmT (.mk kd t a e ks) (.mk kd t a' e' ks') := SmT.of rfl rfl h
theorem SmL.nil : SmL [] [] := ⟨rfl, rfl⟩
theorem SmL.cons {x y : Tree} {l l' : List Tree} (h : SmT x y) (hl : SmL l l') : SmL (x :: l) (y :: l') := ⟨by simp [hl.1], by rw [sameL, show sameT false x y = true from h, hl.2]; rfl⟩
theorem SmL.inv {x y : Tree} {l l' : List Tree} (h : SmL (x :: l) (y :: l')) : SmT x y ∧ SmL l l' := by
  obtain ⟨h1, h2⟩ := h
  rw [sameL, Bool.and_eq_true] at h2
  exact ⟨h2.1, by simpa using h1, h2.2⟩
theorem SmL.snoc {x y : Tree} (h : SmT x y) : ∀ {l l' : List Tree}, SmL l l' → SmL (l ++ [x]) (l' ++ [y])
  | [], [], _ => SmL.cons h SmL.nil
  | [], y :: r, hl => by cases hl.1
  | x :: r, [], hl => by cases hl.1
  | a :: r, b :: r', hl => SmL.cons hl.inv.1 (SmL.snoc h hl.inv.2)
theorem SmT.list {e e' : Int} {l l' : List Tree} (h : SmL l l') : SmT (listT e l) (listT e' l') := by
  cases l with
  | nil => cases l' with
    | nil => exact SmT.of rfl rfl SmL.nil
    | cons y r => cases h.1
  | cons x r => cases l' with
    | nil => cases h.1
    | cons y r' => exact SmT.of rfl rfl h
section
variable {α β : Type} {S S' : Src} {nx : Nat}
/-- Both readings end alike, with results that Q holds of. -/
def Agr (Q : α → α → Prop) : PR α → PR α → Prop
  | .ok x m, .ok x' m' => m = m' ∧ Q x x'
  | .bad _ _, .bad _ _ => True
  | .out, .out => True
  | _, _ => False
def P2 (S S' : Src) (nx : Nat) (p p' : Ps α) (Q : α → α → Prop) : Prop := Agr Q (p S nx) (p' S' nx)
theorem P2.bind {p p' : Ps α} {f f' : α → Ps β} {Q : α → α → Prop} {R : β → β → Prop} (hp : P2 S S' nx p p' Q) (hf : ∀ y y' k, Q y y' → P2 S S' k (f y) (f' y') R) : P2 S S' nx (p >>= f) (p' >>= f') R := by
  unfold P2 at hp ⊢
  rw [Ps.bind_ap, Ps.bind_ap]
  cases e : p S nx with
  | ok y k =>
    rw [e] at hp
    cases e' : p' S' nx with
    | ok y' k' =>
      rw [e'] at hp
      obtain ⟨rfl, hq⟩ := hp
      exact hf y y' k hq
    | bad a m => rw [e'] at hp; exact hp.elim
    | out => rw [e'] at hp; exact hp.elim
  | bad a m =>
    rw [e] at hp
    cases e' : p' S' nx with
    | ok y' k' => rw [e'] at hp; exact hp.elim
    | bad a m => trivial
    | out => rw [e'] at hp; exact hp.elim
  | out =>
    rw [e] at hp
    cases e' : p' S' nx with
    | ok y' k' => rw [e'] at hp; exact hp.elim
    | bad a m => rw [e'] at hp; exact hp.elim
    | out => trivial
theorem P2.mono {p p' : Ps α} {Q R : α → α → Prop} (h : P2 S S' nx p p' Q) (hq : ∀ x x', Q x x' → R x x') : P2 S S' nx p p' R := by
  unfold P2 at h ⊢
  cases e : p S nx <;> cases e' : p' S' nx <;> rw [e, e'] at h <;> first | trivial | exact h.elim | exact ⟨h.1, hq _ _ h.2⟩
theorem P2.pure {x x' : α} {Q : α → α → Prop} (h : Q x x') : P2 S S' nx (Pure.pure x : Ps α) (Pure.pure x') Q := ⟨rfl, h⟩
theorem P2.fail {Q : α → α → Prop} : P2 S S' nx (failP : Ps α) failP Q := trivial
theorem P2.out {Q : α → α → Prop} : P2 S S' nx (outP : Ps α) outP Q := trivial
theorem P2.endp {f f' : Int → Ps α} {Q : α → α → Prop} (h : ∀ e e', P2 S S' nx (f e) (f' e') Q) : P2 S S' nx (endP >>= f) (endP >>= f') Q := h _ _
theorem P2.size {f f' : Int → Ps α} {Q : α → α → Prop} (h : ∀ e e', P2 S S' nx (f e) (f' e') Q) : P2 S S' nx (sizeP >>= f) (sizeP >>= f') Q := h _ _
theorem P2.node {kd a a' : Int} {t : ByteArray} {ks ks' : List Tree} (h : SmL ks ks') : P2 S S' nx (nodeP kd t a ks) (nodeP kd t a' ks') SmT := ⟨rfl, SmT.mk h⟩
variable (hS : SimS S S')
include hS
theorem P2.peek {f f' : Tok → Ps α} {Q : α → α → Prop} (h : ∀ t t', t.kind = t'.kind → t.text = t'.text → P2 S S' nx (f t) (f' t') Q) : P2 S S' nx (peekP >>= f) (peekP >>= f') Q := h _ _ (hS.kind nx) (hS.text nx)
theorem P2.isC {t : ByteArray} {p p' q q' : Ps α} {Q : α → α → Prop} (h1 : P2 S S' nx p p' Q) (h2 : P2 S S' nx q q' Q) : P2 S S' nx (isC t p q) (isC t p' q') Q := by
  show Agr Q (if Ev.isT S.T nx t = true then p S nx else q S nx) (if Ev.isT S'.T nx t = true then p' S' nx else q' S' nx)
  rw [← hS.isT nx t]
  by_cases e : Ev.isT S.T nx t = true
  · rw [if_pos e, if_pos e]; exact h1
  · rw [if_neg e, if_neg e]; exact h2
theorem P2.tak {t : ByteArray} {p p' q q' : Ps α} {Q : α → α → Prop} (h1 : P2 S S' (nx + 1) p p' Q) (h2 : P2 S S' nx q q' Q) : P2 S S' nx (takeC t p q) (takeC t p' q') Q := by
  show Agr Q (if Ev.isT S.T nx t = true then p S (nx + 1) else q S nx) (if Ev.isT S'.T nx t = true then p' S' (nx + 1) else q' S' nx)
  rw [← hS.isT nx t]
  by_cases e : Ev.isT S.T nx t = true
  · rw [if_pos e, if_pos e]; exact h1
  · rw [if_neg e, if_neg e]; exact h2
theorem P2.more {p p' q q' : Ps α} {Q : α → α → Prop} (h1 : P2 S S' nx p p' Q) (h2 : P2 S S' nx q q' Q) : P2 S S' nx (moreC p q) (moreC p' q') Q := by
  show Agr Q (if nx < S.T.length then p S nx else q S nx) (if nx < S'.T.length then p' S' nx else q' S' nx)
  rw [← hS.len]
  by_cases e : nx < S.T.length
  · rw [if_pos e, if_pos e]; exact h1
  · rw [if_neg e, if_neg e]; exact h2
theorem P2.need {t : ByteArray} {f f' : Unit → Ps α} {Q : α → α → Prop} (h : P2 S S' (nx + 1) (f ()) (f' ()) Q) : P2 S S' nx (needP t >>= f) (needP t >>= f') Q := by
  show Agr Q ((if Ev.isT S.T nx t = true then .ok () (nx + 1) else .bad (peekT S.T S.sz nx).at_ nx : PR Unit).bind fun x nx' => f x S nx') ((if Ev.isT S'.T nx t = true then .ok () (nx + 1) else .bad (peekT S'.T S'.sz nx).at_ nx : PR Unit).bind fun x nx' => f' x S' nx')
  rw [← hS.isT nx t]
  by_cases e : Ev.isT S.T nx t = true
  · rw [if_pos e, if_pos e]; exact h
  · rw [if_neg e, if_neg e]; trivial
theorem P2.kind {kd : Int} {f f' : Tok → Ps α} {Q : α → α → Prop} (h : ∀ t t', t.kind = t'.kind → t.text = t'.text → P2 S S' (nx + 1) (f t) (f' t') Q) : P2 S S' nx (kindP kd >>= f) (kindP kd >>= f') Q := by
  show Agr Q ((if nx < S.T.length ∧ (peekT S.T S.sz nx).kind = kd then .ok (peekT S.T S.sz nx) (nx + 1) else .bad (peekT S.T S.sz nx).at_ nx : PR Tok).bind fun x nx' => f x S nx')
    ((if nx < S'.T.length ∧ (peekT S'.T S'.sz nx).kind = kd then .ok (peekT S'.T S'.sz nx) (nx + 1) else .bad (peekT S'.T S'.sz nx).at_ nx : PR Tok).bind fun x nx' => f' x S' nx')
  rw [← hS.len, ← hS.kind nx]
  by_cases e : nx < S.T.length ∧ (peekT S.T S.sz nx).kind = kd
  · rw [if_pos e, if_pos e]; exact h _ _ (hS.kind nx) (hS.text nx)
  · rw [if_neg e, if_neg e]; trivial
omit hS in
theorem P2.ite {c c' : Prop} [Decidable c] [Decidable c'] (hc : c ↔ c') {a a' b b' : Ps α} {Q : α → α → Prop} (h1 : P2 S S' nx a a' Q) (h2 : P2 S S' nx b b' Q) : P2 S S' nx (if c then a else b) (if c' then a' else b') Q := by
  by_cases e : c
  · rw [if_pos e, if_pos (hc.1 e)]; exact h1
  · rw [if_neg e, if_neg (fun x => e (hc.2 x))]; exact h2
end
section
variable {S S' : Src} (hS : SimS S S') {nx : Nat}
include hS
theorem s2_meta {tk kd : Int} : P2 S S' nx (metaP tk kd) (metaP tk kd) SmT :=
  P2.peek hS fun t t' _ _ => P2.kind hS fun n n' _ hx => by rw [hx]; exact P2.node SmL.nil
theorem s2_part {tk kd : Int} : P2 S S' nx (partK tk kd) (partK tk kd) SmT :=
  P2.peek hS fun t t' _ _ => P2.kind hS fun n n' _ hx => P2.need hS (by rw [hx]; exact P2.node SmL.nil)
theorem s2_partC {α : Type} {p p' : Tree → Ps α} {q q' : Ps α} {Q : α → α → Prop} (h1 : ∀ x x' k, SmT x x' → P2 S S' k (p x) (p' x') Q) (h2 : P2 S S' nx q q' Q) : P2 S S' nx (partC p q) (partC p' q') Q := by
  show Agr Q (if (peekT S.T S.sz nx).kind = 7 then (partK 7 26 >>= p) S nx else if (peekT S.T S.sz nx).kind = 6 ∧ (peekT S.T S.sz (nx + 1)).kind = 5 ∧ ((peekT S.T S.sz (nx + 1)).text.toList == (⟨#[59]⟩ : ByteArray).toList) = true then (partK 6 25 >>= p) S nx else q S nx)
    (if (peekT S'.T S'.sz nx).kind = 7 then (partK 7 26 >>= p') S' nx else if (peekT S'.T S'.sz nx).kind = 6 ∧ (peekT S'.T S'.sz (nx + 1)).kind = 5 ∧ ((peekT S'.T S'.sz (nx + 1)).text.toList == (⟨#[59]⟩ : ByteArray).toList) = true then (partK 6 25 >>= p') S' nx else q' S' nx)
  rw [← hS.kind nx, ← hS.kind (nx + 1), ← hS.text (nx + 1)]
  by_cases e : (peekT S.T S.sz nx).kind = 7
  · rw [if_pos e, if_pos e]
    exact P2.bind (p := partK 7 26) (p' := partK 7 26) (s2_part hS) h1
  · rw [if_neg e, if_neg e]
    by_cases e2 : (peekT S.T S.sz nx).kind = 6 ∧ (peekT S.T S.sz (nx + 1)).kind = 5 ∧ ((peekT S.T S.sz (nx + 1)).text.toList == (⟨#[59]⟩ : ByteArray).toList) = true
    · rw [if_pos e2, if_pos e2]
      exact P2.bind (p := partK 6 25) (p' := partK 6 25) (s2_part hS) h1
    · rw [if_neg e2, if_neg e2]; exact h2
theorem s2_names : P2 S S' nx nameS nameS (fun a b => a = b) :=
  P2.kind hS fun n n' _ hx => P2.tak hS (P2.kind hS fun u u' _ hu => P2.pure (by rw [hx, hu])) (P2.pure hx)
theorem s2_name : P2 S S' nx nameP nameP SmT := P2.peek hS fun t t' _ _ => P2.bind (s2_names hS) fun s s' k h => by rw [h]; exact P2.node SmL.nil
theorem s2_typ : P2 S S' nx typP typP SmT := P2.peek hS fun t t' hk _ => P2.ite (by rw [hk]) (s2_meta hS) (s2_name hS)
section
variable {one : Ps Tree} (ho : ∀ nx, P2 S S' nx one one SmT)
include ho
theorem s2_many : P2 S S' nx (manyOr one) (manyOr one) SmT := P2.peek hS fun t t' hk _ => P2.ite (by rw [hk]) (s2_meta hS) (ho nx)
theorem s2_rowE : ∀ (g : Nat) (acc acc' : List Tree) (nx : Nat), SmL acc acc' → P2 S S' nx (rowP one g acc) (rowP one g acc') SmL
  | 0, acc, acc', nx, h => P2.out
  | g + 1, acc, acc', nx, h => by
    unfold rowP
    exact P2.bind (s2_many hS ho) fun x x' k hx => P2.tak hS (s2_rowE g _ _ _ (h.snoc hx)) (P2.pure (h.snoc hx))
theorem s2_row {g : Nat} : P2 S S' nx (rowP one g []) (rowP one g []) SmL := s2_rowE hS ho g [] [] nx SmL.nil
theorem s2_parens {g : Nat} : P2 S S' nx (parensP one g) (parensP one g) SmL := P2.isC hS (P2.pure SmL.nil) (s2_row hS ho)
theorem s2_one : P2 S S' nx (oneP one) (oneP one) SmL := P2.bind (ho nx) fun x x' k h => P2.pure (SmL.cons h SmL.nil)
theorem s2_opt {t : ByteArray} : P2 S S' nx (takeC t (oneP one) (Pure.pure [])) (takeC t (oneP one) (Pure.pure [])) SmL := P2.tak hS (s2_one hS ho) (P2.pure SmL.nil)
theorem s2_rows {g : Nat} {t : ByteArray} : P2 S S' nx (takeC t (rowP one g []) (Pure.pure [])) (takeC t (rowP one g []) (Pure.pure [])) SmL := P2.tak hS (s2_row hS ho) (P2.pure SmL.nil)
end
theorem s2_param : P2 S S' nx paramP paramP SmT :=
  P2.peek hS fun t t' _ _ => P2.kind hS fun n n' _ hx => P2.need hS (P2.bind (s2_typ hS) fun y y' k hy => by rw [hx]; exact P2.node (SmL.cons hy SmL.nil))
section
variable {g : Nat} {E : Ps Tree} (hE : ∀ nx, P2 S S' nx E E SmT)
include hE
theorem s2_args : P2 S S' nx (argsP g E) (argsP g E) SmL := P2.need hS (P2.bind (s2_parens hS hE) fun l l' k h => P2.need hS (P2.pure h))
theorem s2_new {t t' : Tok} : P2 S S' nx (newP g E t) (newP g E t') SmT := P2.bind (s2_names hS) fun s s' k hs => P2.bind (s2_args hS hE) fun l l' k h => by rw [hs]; exact P2.node h
theorem s2_inner {t t' : Tok} : P2 S S' nx (innerP E t) (innerP E t') SmT := P2.bind (hE nx) fun x x' k hx => P2.need hS (P2.endp fun e e' => P2.pure (SmT.of hx.kind hx.text hx.kids))
theorem s2_rest {t t' : Tok} (ht : t.text = t'.text) : P2 S S' nx (restP g E t) (restP g E t') SmT := by
  unfold restP
  rw [ht]
  exact P2.tak hS (P2.node SmL.nil) (P2.tak hS (P2.node SmL.nil) (P2.tak hS (P2.node SmL.nil) (P2.tak hS (P2.node SmL.nil) (P2.tak hS (s2_new hS hE) (P2.tak hS (s2_inner hS hE) P2.fail)))))
omit hE in
theorem s2_leaf {tk kd : Int} {t t' : Tok} : P2 S S' nx (leafP tk kd t) (leafP tk kd t') SmT := P2.kind hS fun n n' _ hx => by rw [hx]; exact P2.node SmL.nil
theorem s2_primary : P2 S S' nx (primaryP g E) (primaryP g E) SmT := P2.peek hS fun t t' hk ht => P2.ite (by rw [hk]) (s2_leaf hS) (P2.ite (by rw [hk]) (s2_leaf hS) (P2.ite (by rw [hk]) (s2_leaf hS) (P2.ite (by rw [hk]) (s2_meta hS) (s2_rest hS hE ht))))
theorem s2_post : ∀ (m : Nat) (x x' : Tree) (nx : Nat), SmT x x' → P2 S S' nx (postP g E m x) (postP g E m x') SmT
  | 0, x, x', nx, h => P2.out
  | m + 1, x, x', nx, h => by
    unfold postP
    exact P2.tak hS (P2.kind hS fun n n' _ hx => P2.bind (by rw [hx]; exact P2.node (SmL.cons h SmL.nil)) fun y y' k hy => s2_post m y y' k hy)
      (P2.isC hS (P2.bind (s2_args hS hE) fun l l' k hl => P2.bind (P2.node (SmL.cons h hl)) fun y y' k hy => s2_post m y y' k hy) (P2.pure h))
theorem s2_unaryB {U : Ps Tree} (hU : ∀ nx, P2 S S' nx U U SmT) : P2 S S' nx (unaryB g E U) (unaryB g E U) SmT := by
  have sg : ∀ {t t' : Tok}, t.text = t'.text → P2 S S' (nx + 1) (signP U t) (signP U t') SmT := fun ht => P2.bind (hU _) fun x x' k hx => by rw [ht]; exact P2.node (SmL.cons hx SmL.nil)
  exact P2.peek hS fun t t' _ ht => P2.tak hS (sg ht) (P2.tak hS (sg ht) (P2.bind (s2_primary hS hE) fun x x' k hx => s2_post hS hE g x x' k hx))
theorem s2_knotU : ∀ (m nx : Nat), P2 S S' nx (knotU g E m) (knotU g E m) SmT
  | 0, nx => P2.out
  | m + 1, nx => s2_unaryB hS hE (s2_knotU m)
theorem s2_unary : P2 S S' nx (unaryP g E) (unaryP g E) SmT := s2_unaryB hS hE (s2_knotU hS hE g)
omit hE in
theorem s2_binLoop {ops : List ByteArray} {sub : Ps Tree} (hs : ∀ nx, P2 S S' nx sub sub SmT) : ∀ (m : Nat) (x x' : Tree) (nx : Nat), SmT x x' → P2 S S' nx (binLoop ops sub m x) (binLoop ops sub m x') SmT
  | 0, x, x', nx, h => P2.out
  | m + 1, x, x', nx, h => by
    unfold Ev.binLoop
    exact P2.peek hS fun t t' hk ht => P2.ite (by rw [hk, ht]) (P2.kind hS fun n n' _ hn => P2.bind (hs _) fun y y' k hy => P2.bind (by rw [hn]; exact P2.node (SmL.cons h (SmL.cons hy SmL.nil))) fun z z' k hz => s2_binLoop hs m z z' k hz) (P2.pure h)
theorem s2_bin : ∀ (l : List (List ByteArray)) (nx : Nat), P2 S S' nx (binP g E l) (binP g E l) SmT
  | [], nx => s2_unary hS hE
  | ops :: r, nx => P2.bind (s2_bin r nx) fun x x' k hx => s2_binLoop hS (s2_bin r) g x x' k hx
end
theorem s2_knotE {g : Nat} : ∀ (m nx : Nat), P2 S S' nx (knotE g m) (knotE g m) SmT
  | 0, nx => P2.out
  | m + 1, nx => s2_bin hS (s2_knotE m) levels nx
theorem s2_expr {g : Nat} (nx : Nat) : P2 S S' nx (exprP g) (exprP g) SmT := s2_bin hS (s2_knotE hS g) levels nx
theorem s2_variable {g : Nat} (nx : Nat) : P2 S S' nx (variableP g) (variableP g) SmT :=
  P2.peek hS fun t t' _ _ => P2.need hS (P2.kind hS fun n n' _ hn => P2.need hS (P2.bind (s2_typ hS) fun y y' k hy => P2.endp fun e e' => P2.bind (s2_opt hS (s2_expr hS)) fun l l' k hl => P2.need hS (by rw [hn]; exact P2.node (SmL.cons hy (SmL.cons (SmT.list hl) SmL.nil)))))
theorem s2_cond {g : Nat} : P2 S S' nx (condP g) (condP g) SmT := P2.need hS (P2.bind (s2_expr hS _) fun x x' k hx => P2.need hS (P2.pure hx))
section
variable {g : Nat} {R : Ps Tree} (hR : ∀ nx, P2 S S' nx R R SmT)
include hR
theorem s2_stmts : ∀ (m : Nat) (acc acc' : List Tree) (nx : Nat), SmL acc acc' → P2 S S' nx (stmtsP R m acc) (stmtsP R m acc') SmL
  | 0, acc, acc', nx, h => P2.out
  | m + 1, acc, acc', nx, h => by
    unfold stmtsP
    exact P2.isC hS (P2.pure h) (P2.bind (hR nx) fun x x' k hx => s2_stmts m _ _ k (h.snoc hx))
theorem s2_blockB (nx : Nat) : P2 S S' nx (blockB g R) (blockB g R) SmT :=
  P2.peek hS fun t t' _ _ => P2.need hS (P2.bind (s2_stmts hS hR g [] [] _ SmL.nil) fun l l' k hl => P2.need hS (P2.node hl))
omit hR in
theorem s2_return {t t' : Tok} : P2 S S' nx (returnP g t) (returnP g t') SmT := P2.bind (P2.isC hS (P2.pure SmL.nil) (s2_one hS (s2_expr hS))) fun l l' k hl => P2.need hS (P2.node hl)
theorem s2_if {t t' : Tok} : P2 S S' nx (ifP g R t) (ifP g R t') SmT := P2.bind (s2_cond hS) fun x x' k hx => P2.bind (s2_blockB hS hR k) fun y y' k hy => P2.endp fun e e' => P2.bind (s2_opt hS (s2_blockB hS hR)) fun l l' k hl => P2.node (SmL.cons hx (SmL.cons hy (SmL.cons (SmT.list hl) SmL.nil)))
theorem s2_while {t t' : Tok} : P2 S S' nx (whileP g R t) (whileP g R t') SmT := P2.bind (s2_cond hS) fun x x' k hx => P2.bind (s2_blockB hS hR k) fun y y' k hy => P2.node (SmL.cons hx (SmL.cons hy SmL.nil))
omit hR in
theorem s2_set {t t' : Tok} : P2 S S' nx (setP g t) (setP g t') SmT := P2.bind (s2_expr hS nx) fun x x' k hx => P2.tak hS (P2.bind (s2_expr hS _) fun y y' k hy => P2.need hS (P2.node (SmL.cons hx (SmL.cons hy SmL.nil)))) (P2.need hS (P2.node (SmL.cons hx SmL.nil)))
theorem s2_stmtB (nx : Nat) : P2 S S' nx (stmtB g R) (stmtB g R) SmT :=
  P2.peek hS fun t t' _ _ => s2_partC hS (fun x x' k hx => P2.pure hx) (P2.isC hS (s2_variable hS nx) (P2.isC hS (s2_blockB hS hR nx) (P2.tak hS (s2_return hS) (P2.tak hS (s2_if hS hR) (P2.tak hS (s2_while hS hR) (s2_set hS))))))
end
theorem s2_knotS {g : Nat} : ∀ (m nx : Nat), P2 S S' nx (knotS g m) (knotS g m) SmT
  | 0, nx => P2.out
  | m + 1, nx => s2_stmtB hS (s2_knotS m) nx
theorem s2_block {g : Nat} (nx : Nat) : P2 S S' nx (blockP g) (blockP g) SmT := s2_blockB hS (s2_knotS hS g) nx
theorem s2_fun {g : Nat} {b : Bool} (nx : Nat) : P2 S S' nx (funP g b) (funP g b) SmT :=
  P2.peek hS fun t t' _ _ => P2.need hS (P2.kind hS fun n n' _ hn => P2.need hS (P2.endp fun e e' => P2.bind (s2_parens hS fun nx => s2_param hS) fun l l' k hl => P2.need hS (P2.endp fun e2 e2' => P2.bind (s2_opt hS fun nx => s2_typ hS) fun l2 l2' k hl2 => P2.endp fun e3 e3' =>
    P2.ite Iff.rfl (P2.bind (s2_block hS _) fun x x' k hx => by rw [hn]; exact P2.node (SmL.cons (SmT.list hl) (SmL.cons (SmT.list hl2) (SmL.cons (SmT.list (SmL.cons hx SmL.nil)) SmL.nil))))
      (P2.need hS (by rw [hn]; exact P2.node (SmL.cons (SmT.list hl) (SmL.cons (SmT.list hl2) (SmL.cons (SmT.list SmL.nil) SmL.nil))))))))
theorem s2_member {g : Nat} (nx : Nat) : P2 S S' nx (memberP g) (memberP g) SmT := P2.isC hS (s2_variable hS nx) (s2_fun hS nx)
section
variable {one : Ps Tree} (ho : ∀ nx, P2 S S' nx one one SmT)
include ho
theorem s2_members : ∀ (m : Nat) (acc acc' : List Tree) (nx : Nat), SmL acc acc' → P2 S S' nx (membersP one m acc) (membersP one m acc') SmL
  | 0, acc, acc', nx, h => P2.out
  | m + 1, acc, acc', nx, h => by
    unfold membersP
    exact P2.isC hS (P2.pure h) (P2.peek hS fun t t' hk _ => P2.ite (by rw [hk]) (P2.bind (s2_part hS) fun x x' k hx => s2_members m _ _ k (h.snoc hx))
      (s2_partC hS (fun x x' k hx => s2_members m _ _ k (h.snoc hx)) (P2.bind (ho nx) fun x x' k hx => s2_members m _ _ k (h.snoc hx))))
theorem s2_body {g : Nat} : P2 S S' nx (bodyP one g) (bodyP one g) SmT := P2.need hS (P2.endp fun e e' => P2.bind (s2_members hS ho g [] [] _ SmL.nil) fun l l' k hl => P2.pure (SmT.list hl))
end
theorem s2_class {g : Nat} (nx : Nat) : P2 S S' nx (classP g) (classP g) SmT :=
  P2.peek hS fun t t' _ _ => P2.need hS (P2.kind hS fun n n' _ hn => P2.endp fun e e' => P2.bind (s2_opt hS fun nx => s2_typ hS) fun l l' k hl => P2.endp fun e2 e2' => P2.bind (s2_rows hS fun nx => s2_typ hS) fun l2 l2' k hl2 => P2.bind (s2_body hS (s2_member hS)) fun d d' k hd => P2.need hS (by
    rw [hn]; exact P2.node (SmL.cons (SmT.list hl) (SmL.cons (SmT.list hl2) (SmL.cons hd SmL.nil)))))
theorem s2_iface {g : Nat} (nx : Nat) : P2 S S' nx (ifaceP g) (ifaceP g) SmT :=
  P2.peek hS fun t t' _ _ => P2.need hS (P2.kind hS fun n n' _ hn => P2.endp fun e e' => P2.bind (s2_rows hS fun nx => s2_typ hS) fun l l' k hl => P2.bind (s2_body hS (s2_fun hS)) fun d d' k hd => P2.need hS (by
    rw [hn]; exact P2.node (SmL.cons (SmT.list hl) (SmL.cons hd SmL.nil))))
theorem s2_decl {g : Nat} (nx : Nat) : P2 S S' nx (declP g) (declP g) SmT := P2.isC hS (s2_class hS nx) (P2.isC hS (s2_iface hS nx) (P2.isC hS (s2_fun hS nx) (P2.isC hS (s2_variable hS nx) P2.fail)))
theorem s2_import (nx : Nat) : P2 S S' nx importP importP SmT := P2.peek hS fun t t' _ _ => P2.need hS (P2.kind hS fun n n' _ hn => P2.need hS (by rw [hn]; exact P2.node SmL.nil))
theorem s2_imports : ∀ (m : Nat) (acc acc' : List Tree) (nx : Nat), SmL acc acc' → P2 S S' nx (importsP m acc) (importsP m acc') SmL
  | 0, acc, acc', nx, h => P2.out
  | m + 1, acc, acc', nx, h => by
    unfold importsP
    exact P2.isC hS (P2.bind (s2_import hS nx) fun x x' k hx => s2_imports m _ _ k (h.snoc hx)) (P2.pure h)
theorem s2_decls {g : Nat} : ∀ (m : Nat) (acc acc' : List Tree) (nx : Nat), SmL acc acc' → P2 S S' nx (declsP g m acc) (declsP g m acc') SmL
  | 0, acc, acc', nx, h => P2.out
  | m + 1, acc, acc', nx, h => by
    unfold declsP
    exact P2.more hS (P2.bind (s2_decl hS nx) fun x x' k hx => s2_decls m _ _ k (h.snoc hx)) (P2.pure h)
theorem s2_module {g : Nat} (nx : Nat) : P2 S S' nx (moduleP g) (moduleP g) SmT :=
  P2.bind (s2_imports hS g [] [] nx SmL.nil) fun l l' k hl => P2.bind (s2_decls hS g l l' k hl) fun l2 l2' k hl2 => P2.size fun s s' => P2.pure (SmT.of rfl rfl hl2)
theorem s2_whole {p : Ps Tree} (hp : ∀ nx, P2 S S' nx p p SmT) (nx : Nat) : P2 S S' nx (wholeP p) (wholeP p) SmT := P2.bind (hp nx) fun x x' k hx => P2.more hS P2.fail (P2.pure hx)
end
/-- Depth looks past places. -/
theorem sm_deep : ∀ (l : Nat) (x y : Tree), SmT x y → (deepT l x = none ↔ deepT l y = none)
  | 0, x, y, h => by unfold deepT; simp
  | l + 1, x, y, h => by
    have hk := h.kids
    have go : ∀ (a b : List Tree), SmL a b → (a.findSome? (deepT l) = none ↔ b.findSome? (deepT l) = none) := by
      intro a
      induction a with
      | nil => intro b hb; cases b with
        | nil => exact Iff.rfl
        | cons y r => cases hb.1
      | cons x r ih => intro b hb; cases b with
        | nil => cases hb.1
        | cons y r' =>
          have h1 := sm_deep l x y hb.inv.1
          have h2 := ih r' hb.inv.2
          rw [List.findSome?_cons, List.findSome?_cons]
          cases e1 : deepT l x with
          | none => rw [h1.1 e1]; exact h2
          | some a =>
            cases e2 : deepT l y with
            | none => rw [h1.2 e2] at e1; cases e1
            | some b => simp
    exact go _ _ hk
end Go.Ev
set_option maxRecDepth 4000
namespace Go.Ev
open PV
section
variable {n : Nat} {sg : List (List PV)} {K : Res → Out} {k : Nat}
theorem pname_spec {s : ByteArray} (hk : 3 ≤ k) (hs : s.size ≤ 1000000000) (hn : s.size < n) (h30 : 30 ≤ n) : callW (En n) k 105 [.str s] sg K = K ⟨false, .bool (plainB s)⟩ sg := by
  rw [callW_at (by omega) rfl, R11_Name.eq]
  unfold plainB nameL
  rw [show decide ((s.size : Int) ≤ 24) = decide (s.size ≤ 24) by rw [Bool.eq_iff_iff, decide_eq_true_iff, decide_eq_true_iff]; omega]
  cases hl : s.data.toList with
  | nil =>
    have h0 : s.size = 0 := by rw [← len_data, hl]; rfl
    rw [h0]
    rfl
  | cons c t =>
    have hz : s.size = t.length + 1 := by rw [← len_data, hl]; rfl
    have hb : byteAt s 0 = (c.toNat : Int) := (at_cons (p := 0) hl).2.1
    rw [decide_eq_true (show (s.size : Int) > 0 by omega), bcond_t, chk_t, hb]
    have hw : ∀ K : Res → Out, callW (En n) (k - 1) 137 [.str s, .int .i64 0] sg K = K ⟨false, .int .i64 ((0 + wordLen (s.data.toList.drop 0) : Nat) : Int)⟩ sg := fun K => rword_spec (p := 0) (by omega) hs hn (by omega)
    show bcond (decide (s.size ≤ 24)) _ _ = K ⟨false, .bool ((isLetterI c.toNat && wordLen (c :: t) == (c :: t).length && !isKwL (c :: t)) && decide (s.size ≤ 24))⟩ sg
    cases decide (s.size ≤ 24) with
    | false => rw [Bool.and_false]; rfl
    | true =>
      rw [bcond_t, cB_of _ (fun K => rletter_spec (by omega) _), Bool.and_true]
      cases isLetterI c.toNat with
      | false => rfl
      | true =>
        rw [bcond_t, cI_of _ hw, List.drop_zero, Nat.zero_add, hl, show ((wordLen (c :: t) : Int) == (s.size : Int)) = (wordLen (c :: t) == (c :: t).length) by rw [hz, List.length_cons]; exact len_eqb _ _]
        cases (wordLen (c :: t) == (c :: t).length) with
        | false => rfl
        | true => rw [bcond_t, cB_of _ (fun K => rkw_spec (by omega) h30 s), hl]; rfl
theorem pdig_loop {s : ByteArray} (hk : 1 ≤ k) (hn : s.size < n) (hL : n ≤ 4611686018427387904) : ∀ (l : List UInt8) (p m : Nat) (p2 p3 : PV), s.data.toList.drop p = l → p ≤ s.size → l.length < m →
    L n (callW (En n) k) 106 [1, 0, 1, 0, 0] (R11_digits.S0 s (p : Int) p2 p3) sg (R11_digits.K0 (callW (En n) k) n K) m = K ⟨false, .bool (l.all isDigitB && (decide (0 < s.size) && (decide (s.size ≤ 9) && (s.size == 1 || !(s.data.toList.head? == some 48)))))⟩ sg
  | l, p, 0, p2, p3, hl, hp, hm => by omega
  | [], p, m + 1, p2, p3, hl, hp, hm => by
    obtain rfl := at_end hl hp
    rw [L_succ, R11_digits.loop0, decide_eq_false (show ¬ ((s.size : Int) < (s.size : Int)) by omega), bcond_f, C_eq, R11_digits.cut1]
    show _ = K ⟨false, .bool (true && _)⟩ sg
    rw [Bool.true_and, show decide ((s.size : Int) ≥ 1) = decide (0 < s.size) by rw [Bool.eq_iff_iff, decide_eq_true_iff, decide_eq_true_iff]; omega, show decide ((s.size : Int) ≤ 9) = decide (s.size ≤ 9) by rw [Bool.eq_iff_iff, decide_eq_true_iff, decide_eq_true_iff]; omega, len_1]
    cases hl' : s.data.toList with
    | nil =>
      have h0 : s.size = 0 := by rw [← len_data, hl']; rfl
      rw [h0]
      rfl
    | cons c t =>
      have hz : s.size = t.length + 1 := by rw [← len_data, hl']; rfl
      have hb : byteAt s 0 = (c.toNat : Int) := (at_cons (p := 0) hl').2.1
      have h48 : ((c :: t).head? == some 48) = ((c.toNat : Int) == 48) := by
        have hc48 : (c = 48) ↔ ((c.toNat : Int) = 48) := by
          constructor
          · intro h; subst h; rfl
          · intro h; exact UInt8.toNat_inj.1 (by show c.toNat = 48; omega)
        rw [Bool.eq_iff_iff]
        simp only [List.head?_cons, beq_iff_eq, Option.some.injEq]
        exact hc48
      rw [decide_eq_true (show 0 < s.size by omega), bcond_t, decide_eq_true (show (0 : Int) < (s.size : Int) by omega), chk_t, hb, h48]
      show _ = K ⟨false, .bool (true && (decide (s.size ≤ 9) && (s.size == 1 || ((c.toNat : Int) != 48))))⟩ sg
      generalize decide (s.size ≤ 9) = a
      generalize (s.size == 1) = b
      cases a <;> cases b <;> rfl
  | c :: t, p, m + 1, p2, p3, hl, hp, hm => by
    obtain ⟨h1, h2, h3⟩ := at_cons hl
    have ew : IntKind.i64.wrap ((p : Int) + 1) = ((p + 1 : Nat) : Int) := wrap_id _ (by omega) (by omega)
    rw [L_succ, R11_digits.loop0, h2, decide_eq_true (show ((p : Int) < (s.size : Int)) by omega), decide_eq_true (show (0 : Int) ≤ (p : Int) by omega), bcond_t, Bool.and_self, chk_t, ew, cB_of _ (fun K => rdigit_spec hk _), List.all_cons, show isDigitB c = isDigitI c.toNat from rfl]
    cases isDigitI c.toNat with
    | false => rfl
    | true =>
      rw [Bool.not_true, bcond_f, pdig_loop hk hn hL t (p + 1) m _ _ h3 (by omega) (by simp at hm; omega), Bool.true_and]
theorem pdig_spec {s : ByteArray} (hk : 2 ≤ k) (hn : s.size < n) (hL : n ≤ 4611686018427387904) : callW (En n) k 106 [.str s] sg K = K ⟨false, .bool (digitsB s)⟩ sg := by
  rw [callW_at (by omega) rfl, R11_digits.eq]
  exact pdig_loop (by omega) hn hL s.data.toList 0 n _ _ rfl (by omega) (by rw [len_data]; omega)
theorem pcon_loop {s : ByteArray} (hn : s.size < n) (hL : n ≤ 4611686018427387904) : ∀ (l : List UInt8) (p m : Nat) (p2 p3 : PV), s.data.toList.drop p = l → p ≤ s.size → l.length < m →
    L n (callW (En n) k) 107 [1, 0, 1, 0, 0] (R11_contents.S0 s (p : Int) p2 p3) sg (R11_contents.K0 (callW (En n) k) n K) m = K ⟨false, .bool (l.all inText && decide (s.size ≤ 60))⟩ sg
  | l, p, 0, p2, p3, hl, hp, hm => by omega
  | [], p, m + 1, p2, p3, hl, hp, hm => by
    obtain rfl := at_end hl hp
    rw [L_succ, R11_contents.loop0, decide_eq_false (show ¬ ((s.size : Int) < (s.size : Int)) by omega), bcond_f, show decide ((s.size : Int) ≤ 60) = decide (s.size ≤ 60) by rw [Bool.eq_iff_iff, decide_eq_true_iff, decide_eq_true_iff]; omega]
    rfl
  | c :: t, p, m + 1, p2, p3, hl, hp, hm => by
    obtain ⟨h1, h2, h3⟩ := at_cons hl
    have ew : IntKind.i64.wrap ((p : Int) + 1) = ((p + 1 : Nat) : Int) := wrap_id _ (by omega) (by omega)
    rw [L_succ, R11_contents.loop0, h2, decide_eq_true (show ((p : Int) < (s.size : Int)) by omega), decide_eq_true (show (0 : Int) ≤ (p : Int) by omega), bcond_t, Bool.and_self, chk_t, chk_t, chk_t, ew, List.all_cons]
    have ed : inText c = (!((c.toNat : Int) != 10) || (!decide ((c.toNat : Int) < 32) && !decide ((c.toNat : Int) > 126))) := by
      unfold inText
      rw [Bool.eq_iff_iff]; simp; omega
    rw [ed, pcon_loop hn hL t (p + 1) m _ _ h3 (by omega) (by simp at hm; omega), pcon_loop hn hL t (p + 1) m _ _ h3 (by omega) (by simp at hm; omega)]
    cases ((c.toNat : Int) != 10) with
    | false => rfl
    | true =>
      rw [bcond_t]
      cases decide ((c.toNat : Int) < 32) with
      | true => rfl
      | false =>
        rw [bcond_f]
        cases decide ((c.toNat : Int) > 126) with
        | true => rfl
        | false => rfl
theorem pcon_spec {s : ByteArray} (hk : 1 ≤ k) (hn : s.size < n) (hL : n ≤ 4611686018427387904) : callW (En n) k 107 [.str s] sg K = K ⟨false, .bool (textB s)⟩ sg := by
  rw [callW_at (by omega) rfl, R11_contents.eq]
  exact pcon_loop hn hL s.data.toList 0 n _ _ rfl (by omega) (by rw [len_data]; omega)
/-- What a module's token is printed as. -/
structure TokO (t : Tok) (o : List UInt8) : Prop where
  pl : TokPl t
  out : t.out = some o
  sz : t.text.size ≤ 1000000000
theorem kind_of {t : Tok} {o : List UInt8} (h : TokO t o) : t.kind = 1 ∨ t.kind = 2 ∨ t.kind = 3 ∨ t.kind = 4 ∨ t.kind = 5 := by
  have ho : Bk.textO t.kind t.text.data.toList = some o := h.out
  obtain ⟨h6, h7, _⟩ := h.pl
  apply Classical.byContradiction
  intro hn
  unfold Bk.textO at ho
  rw [if_neg (by omega), if_neg (by omega), if_neg (by omega), if_neg (by omega), if_neg (by omega), if_neg h6, if_neg h7] at ho
  cases ho
theorem o_same {t : Tok} {o : List UInt8} (h : TokO t o) (h4 : t.kind ≠ 4) : o = t.text.data.toList := by
  have ho : Bk.textO t.kind t.text.data.toList = some o := h.out
  obtain ⟨h6, h7, _⟩ := h.pl
  unfold Bk.textO at ho
  rcases kind_of h with e | e | e | e | e
  · rw [if_pos e] at ho; split at ho <;> cases ho; rfl
  · rw [if_neg (by omega), if_pos e] at ho; split at ho <;> cases ho; rfl
  · rw [if_neg (by omega), if_neg (by omega), if_pos e] at ho; split at ho <;> cases ho; rfl
  · exact absurd e h4
  · rw [if_neg (by omega), if_neg (by omega), if_neg (by omega), if_neg (by omega), if_pos e] at ho; split at ho <;> cases ho; rfl
theorem pright_spec {t : Tok} {o : List UInt8} (h : TokO t o) (hk : 4 ≤ k) (hn : t.text.size < n) (h30 : 30 ≤ n) (hL : n ≤ 4611686018427387904) : callW (En n) k 52 [.agg (tokRow t)] sg K = K ⟨false, .bool true⟩ sg := by
  have ho : Bk.textO t.kind t.text.data.toList = some o := h.out
  have hz := h.sz
  obtain ⟨h6, h7, p1, p3, p4⟩ := h.pl
  have hkk := kind_of h
  rw [callW_at (by omega) rfl]
  show B n _ 52 sg [.agg [.int .i64 t.kind, .str t.text, .int .i64 t.at_, .int .i64 t.end_]] K = _
  rw [R11_Right.eq]
  by_cases e1 : t.kind = 1
  · rw [kb e1, bcond_t, cB_of _ (fun K => pname_spec (by omega) hz hn h30), p1 e1]
  rw [kn e1, bcond_f, kn h6, bcond_f, kn h7, bcond_f, C_eq, R11_Right.cut0]
  by_cases e2 : t.kind = 2
  · have : isKwL t.text.data.toList = true := by
      unfold Bk.textO at ho
      rw [if_neg e1, if_pos e2] at ho
      split at ho
      · assumption
      · cases ho
    rw [kb e2, bcond_t, cB_of _ (fun K => rkw_spec (by omega) h30 _), this]
  rw [kn e2, bcond_f, C_eq, R11_Right.cut1]
  by_cases e3 : t.kind = 3
  · rw [kb e3, bcond_t, cB_of _ (fun K => pdig_spec (by omega) hn hL), p3 e3]
  rw [kn e3, bcond_f, C_eq, R11_Right.cut2]
  by_cases e4 : t.kind = 4
  · rw [kb e4, bcond_t, cB_of _ (fun K => pcon_spec (by omega) hn hL), p4 e4]
  rw [kn e4, bcond_f, C_eq, R11_Right.cut3]
  have e5 : t.kind = 5 := by omega
  have : isMarkL t.text.data.toList = true := by
    unfold Bk.textO at ho
    rw [if_neg e1, if_neg e2, if_neg e3, if_neg e4, if_pos e5] at ho
    split at ho
    · assumption
    · cases ho
  rw [kb e5, bcond_t, cB_of _ (fun K => rmark_spec (by omega) h30 _), this]
theorem bRows_app2 (l : List UInt8) (b c : UInt8) (i j : Int) (h : i = (b.toNat : Int)) (h' : j = (c.toNat : Int)) : bRows l ++ [[.int .u8 i], [.int .u8 j]] = bRows (l ++ [b, c]) := by subst h h'; simp [bRows]
theorem pquote_loop {s : ByteArray} (hs : s.size ≤ 1000000) (hn : s.size < n) (hL : n ≤ 4611686018427387904) : ∀ (l : List UInt8) (p m : Nat) (acc e : List UInt8) (p3 p4 p5 : PV), s.data.toList.drop p = l → p ≤ s.size → l.length < m → acc.length ≤ 2 * p + 1 → Bk.escO l = some e →
    L n (callW (En n) k) 53 [1, 1, 0, 1, 0, 0] (R11_Quote.S0 s (bRows acc) (p : Int) p3 p4 p5) sg (R11_Quote.K0 (callW (En n) k) n K) m = K ⟨false, .str (tx (acc ++ (e ++ [34])))⟩ sg
  | l, p, 0, acc, e, p3, p4, p5, hl, hp, hm, ha, he => by omega
  | [], p, m + 1, acc, e, p3, p4, p5, hl, hp, hm, ha, he => by
    obtain rfl := at_end hl hp
    rw [Bk.escO] at he
    cases he
    rw [L_succ, R11_Quote.loop0, decide_eq_false (show ¬ ((s.size : Int) < (s.size : Int)) by omega), bcond_f, bRows_ok, bRows_len, decide_eq_true (show acc.length + 1 ≤ mostL by unfold mostL; omega), Bool.and_self, chk_t, bRows_app acc 34 34 rfl, bRows_byte, chk_t, bRows_tx]
    rfl
  | c :: t, p, m + 1, acc, e, p3, p4, p5, hl, hp, hm, ha, he => by
    obtain ⟨h1, h2, h3⟩ := at_cons hl
    have ew : IntKind.i64.wrap ((p : Int) + 1) = ((p + 1 : Nat) : Int) := wrap_id _ (by omega) (by omega)
    have hm' : t.length < m := by simp at hm; omega
    have e2 : decide (acc.length + 2 ≤ mostL) = true := decide_eq_true (by unfold mostL; omega)
    have e1 : decide (acc.length + 1 ≤ mostL) = true := decide_eq_true (by unfold mostL; omega)
    rw [L_succ, R11_Quote.loop0, h2, decide_eq_true (show ((p : Int) < (s.size : Int)) by omega), decide_eq_true (show (0 : Int) ≤ (p : Int) by omega), bcond_t, Bool.and_self, chk_t, chk_t, chk_t, chk_t, chk_t, chk_t, bRows_ok, bRows_len, e2, e1, Bool.and_self, chk_t, chk_t, chk_t, chk_t, ew]
    by_cases c34 : c.toNat = 34
    · rw [Bk.escO_esc c t (.inl c34)] at he
      obtain ⟨e', he', rfl⟩ := Option.map_eq_some_iff.1 he
      rw [show ((c.toNat : Int) == 34) = true by rw [beq_iff_eq]; omega, bcond_t, bRows_app2 acc 92 c 92 _ rfl rfl, pquote_loop hs hn hL t (p + 1) m _ e' _ _ _ h3 (by omega) hm' (by simp; omega) he']
      simp
    rw [show ((c.toNat : Int) == 34) = false by rw [beq_eq_false_iff_ne]; omega, bcond_f]
    by_cases c92 : c.toNat = 92
    · rw [Bk.escO_esc c t (.inr c92)] at he
      obtain ⟨e', he', rfl⟩ := Option.map_eq_some_iff.1 he
      rw [show ((c.toNat : Int) == 92) = true by rw [beq_iff_eq]; omega, bcond_t, bRows_app2 acc 92 c 92 _ rfl rfl, pquote_loop hs hn hL t (p + 1) m _ e' _ _ _ h3 (by omega) hm' (by simp; omega) he']
      simp
    rw [show ((c.toNat : Int) == 92) = false by rw [beq_eq_false_iff_ne]; omega, bcond_f]
    by_cases c10 : c.toNat = 10
    · rw [Bk.escO_n c t c10] at he
      obtain ⟨e', he', rfl⟩ := Option.map_eq_some_iff.1 he
      rw [show ((c.toNat : Int) == 10) = true by rw [beq_iff_eq]; omega, bcond_t, bRows_app2 acc 92 110 92 110 rfl rfl, pquote_loop hs hn hL t (p + 1) m _ e' _ _ _ h3 (by omega) hm' (by simp; omega) he']
      simp
    have hr : 32 ≤ c.toNat ∧ c.toNat ≤ 126 := by
      apply Classical.byContradiction
      intro hc
      rw [Bk.escO_no c t c10 (by omega)] at he
      cases he
    rw [Bk.escO_ch c t c34 c92 hr.1 hr.2] at he
    obtain ⟨e', he', rfl⟩ := Option.map_eq_some_iff.1 he
    rw [show ((c.toNat : Int) == 10) = false by rw [beq_eq_false_iff_ne]; omega, bcond_f, bRows_app acc c _ rfl, pquote_loop hs hn hL t (p + 1) m _ e' _ _ _ h3 (by omega) hm' (by simp; omega) he']
    simp
theorem pquote_spec {s : ByteArray} {o : List UInt8} (hk : 1 ≤ k) (hn : s.size < n) (hL : n ≤ 4611686018427387904) (h : Bk.quoteO s.data.toList = some o) : callW (En n) k 53 [.str s] sg K = K ⟨false, .str (tx o)⟩ sg := by
  unfold Bk.quoteO at h
  split at h
  · cases h
  · rename_i h60
    rw [len_data] at h60
    obtain ⟨e, he, rfl⟩ := Option.map_eq_some_iff.1 h
    rw [callW_at (by omega) rfl, R11_Quote.eq]
    exact pquote_loop (by omega) hn hL s.data.toList 0 n [34] e _ _ _ rfl (by omega) (by rw [len_data]; omega) (by simp) he
theorem cS_of {c : Caller} {f : Nat} {args : List PV} {sg sg' : List (List PV)} {X : PV → Out} {Y : ByteArray → Out} (t : ByteArray) (h : ∀ K : Res → Out, c f args sg K = K ⟨false, .str t⟩ sg') : cS c f args sg X Y = Y t sg' := by rw [cS, h]; rfl
theorem cat_tx (a b : List UInt8) : cat (tx a) (tx b) = tx (a ++ b) := by
  rw [cat_eq]
  exact ba_ext (by simp [tx])
theorem sum_tx (a b : List UInt8) (h : a.length + b.length ≤ 1000000000) : sumOk (tx a) (tx b) = true := by
  rw [sumOk_eq, tx_size, tx_size, show IntKind.i64.max = 9223372036854775807 from rfl]
  exact decide_eq_true (by omega)
theorem trow_at (T : List Tok) (i : Nat) (h : i < T.length) : rowAt (T.map tokRow) (i : Int) = tokRow (T.getD i default) := by rw [rowAt_map tokRow T (i : Int) default (by omega) (by omega), Int.toNat_natCast]
/-- One token is put behind the text. -/
theorem pbody {m0 i : Nat} {b3 b4 b5 : Bool} {p6 p7 p8 : PV} {R : Prop} {T : List Tok} {t : Tok} {acc o : List UInt8} (hk : 1 ≤ k) (hL : n ≤ 4611686018427387904) (hi : i < T.length) (hT : T.length < n) (ht : T.getD i default = t) (h : TokO t o) (hn : t.text.size < n) (ha : acc.length + o.length ≤ 1000000000)
    (hR : ∀ p3 p4 p5 p6 p7 p8, L n (callW (En n) k) 31 [1, 1, 0, 1, 0, 0] (R11_Print.S0 (T.map tokRow) (tx (acc ++ o)) ((i + 1 : Nat) : Int) p3 p4 p5 p6 p7 p8) sg (R11_Print.K0 (callW (En n) k) n K) m0 = R) :
    C n (callW (En n) k) 31 [1, 1, 0, 1, 0, 0, 1, 0, 0, 1, 1] (R11_Print.S2 (T.map tokRow) (tx acc) (i : Int) b3 b4 b5 p6 p7 p8) sg (R11_Print.K2 (callW (En n) k) n m0 K) = R := by
  have ew : IntKind.i64.wrap ((i : Int) + 1) = ((i + 1 : Nat) : Int) := wrap_id _ (by omega) (by omega)
  obtain ⟨h6, h7, _⟩ := h.pl
  rw [C_eq, R11_Print.cut2, show rowsOk 4 (T.map tokRow) = true from rowsOk_map _ 4 tokRow_len T, List.length_map, trow_at T i hi, ht, ew]
  have e0 : (true && (decide ((0 : Int) ≤ (i : Int)) && decide ((i : Int) < (T.length : Int)))) = true := by rw [decide_eq_true (show (0 : Int) ≤ (i : Int) by omega), decide_eq_true (show (i : Int) < (T.length : Int) by omega)]; rfl
  rw [e0]
  have k0 : ((tokRow t).getD 0 .undef).cstrip = .int .i64 t.kind := rfl
  have k1 : ((tokRow t).getD 1 .undef).cstrip = .str t.text := rfl
  rw [k0, k1, show (PV.int .i64 t.kind).isI .i64 = true from rfl, show (PV.int .i64 t.kind).toI = t.kind from rfl, show (PV.str t.text).isS = true from rfl, show (PV.str t.text).toS = t.text from rfl, show decide (1 ≤ (tokRow t).length) = true from rfl, show decide (2 ≤ (tokRow t).length) = true from rfl]
  simp only [chk_t]
  by_cases e4 : t.kind = 4
  · have hq : Bk.quoteO t.text.data.toList = some o := by
      have ho : Bk.textO t.kind t.text.data.toList = some o := h.out
      unfold Bk.textO at ho
      rw [if_neg (by omega), if_neg (by omega), if_neg (by omega), if_pos e4] at ho
      exact ho
    rw [kb e4, bcond_t, cS_of _ (fun K => pquote_spec hk hn hL hq), sum_tx _ _ ha, chk_t, cat_tx]
    exact hR _ _ _ _ _ _
  · have ho := o_same h e4
    rw [kn e4, bcond_f, kn h6, bcond_f, kn h7, bcond_f, show t.text = tx o by rw [ho, tx_data], sum_tx _ _ ha, chk_t, cat_tx]
    exact hR _ _ _ _ _ _
theorem tail_cons (o : List UInt8) (os : List (List UInt8)) : Bk.tailL (o :: os) = 32 :: (o ++ Bk.tailL os) := by
  show 32 :: Bk.joinL (o :: os) = _
  rw [Bk.joinL_cons]
theorem pprint_loop (hk : 4 ≤ k) (hL : n ≤ 4611686018427387904) (h30 : 30 ≤ n) {T : List Tok} (hT : T.length < n) (hT6 : T.length ≤ 600) : ∀ (xs : List Tok) (os : List (List UInt8)) (i m : Nat) (acc : List UInt8) (p3 p4 p5 p6 p7 p8 : PV), T.drop i = xs → i ≤ T.length → xs.length < m → Bk.outs xs = some os →
    (∀ t ∈ xs, TokPl t ∧ t.text.size ≤ 1000000000 ∧ t.text.size < n) → (∀ o ∈ os, o.length ≤ 122) → acc.length ≤ 123 * i →
    L n (callW (En n) k) 31 [1, 1, 0, 1, 0, 0] (R11_Print.S0 (T.map tokRow) (tx acc) (i : Int) p3 p4 p5 p6 p7 p8) sg (R11_Print.K0 (callW (En n) k) n K) m = K ⟨false, .tup [.str (tx (acc ++ (if i = 0 then Bk.joinL os else Bk.tailL os))), .int .i64 0]⟩ sg
  | xs, os, i, 0, acc, p3, p4, p5, p6, p7, p8, hx, hi, hm, ho, hp, hs, ha => by omega
  | [], os, i, m + 1, acc, p3, p4, p5, p6, p7, p8, hx, hi, hm, ho, hp, hs, ha => by
    have : i = T.length := by have := List.drop_eq_nil_iff.1 hx; omega
    subst this
    rw [Bk.outs] at ho
    cases ho
    rw [L_succ, R11_Print.loop0, List.length_map, decide_eq_false (show ¬ ((T.length : Int) < (T.length : Int)) by omega), bcond_f]
    have : (if T.length = 0 then Bk.joinL [] else Bk.tailL []) = [] := by split <;> rfl
    rw [this, List.append_nil]
  | t :: xs, os, i, m + 1, acc, p3, p4, p5, p6, p7, p8, hx, hi, hm, ho, hp, hs, ha => by
    obtain ⟨o, os', rfl, h1, h2⟩ := Bk.outs_parts t xs os ho
    have hil : i < T.length := by
      rcases Nat.lt_or_ge i T.length with h | h
      · exact h
      · rw [List.drop_eq_nil_iff.2 h] at hx; cases hx
    have ht : T.getD i default = t := by
      have : T[i]? = some t := by rw [← List.head?_drop, hx]; rfl
      rw [List.getD_eq_getElem?_getD, this]; rfl
    have hx' : T.drop (i + 1) = xs := by rw [← List.drop_drop, hx]; rfl
    obtain ⟨q1, q2, q3⟩ := hp t List.mem_cons_self
    have hO : TokO t o := ⟨q1, h1, q2⟩
    have ol := hs o List.mem_cons_self
    have e0 : (true && (decide ((0 : Int) ≤ (i : Int)) && decide ((i : Int) < (T.length : Int)))) = true := by rw [decide_eq_true (show (0 : Int) ≤ (i : Int) by omega), decide_eq_true (show (i : Int) < (T.length : Int) by omega)]; rfl
    rw [L_succ, R11_Print.loop0, show rowsOk 4 (T.map tokRow) = true from rowsOk_map _ 4 tokRow_len T, List.length_map, e0, decide_eq_true (show (i : Int) < (T.length : Int) by omega), bcond_t, trow_at T i hil, ht]
    show chk true (chk true (chk true (chk true (chk true (chk true (chk true (cB _ 52 [.agg (tokRow t)] sg (pan K) _))))))) = _
    simp only [chk_t]
    rw [cB_of _ (fun K => pright_spec hO hk q3 h30 hL), Bool.not_true, bcond_f, C_eq, R11_Print.cut1]
    have go : ∀ (acc' : List UInt8), acc'.length + o.length ≤ 123 * (i + 1) → ∀ p3 p4 p5 p6 p7 p8, L n (callW (En n) k) 31 [1, 1, 0, 1, 0, 0] (R11_Print.S0 (T.map tokRow) (tx (acc' ++ o)) ((i + 1 : Nat) : Int) p3 p4 p5 p6 p7 p8) sg (R11_Print.K0 (callW (En n) k) n K) m = K ⟨false, .tup [.str (tx (acc' ++ (o ++ Bk.tailL os'))), .int .i64 0]⟩ sg := fun acc' ha' p3 p4 p5 p6 p7 p8 => by
      rw [pprint_loop hk hL h30 hT hT6 xs os' (i + 1) m (acc' ++ o) _ _ _ _ _ _ hx' (by omega) (by simp at hm; omega) h2 (fun t ht => hp t (List.mem_cons_of_mem _ ht)) (fun o ho => hs o (List.mem_cons_of_mem _ ho)) (by rw [List.length_append]; exact ha'), if_neg (by omega), List.append_assoc]
    by_cases hi0 : i = 0
    · subst hi0
      rw [decide_eq_false (show ¬ (((0 : Nat) : Int) > 0) by omega), bcond_f, if_pos rfl, Bk.joinL_cons]
      exact pbody (by omega) hL hil hT ht hO q3 (by omega) (go acc (by omega))
    · have el : (acc ++ [32]).length = acc.length + 1 := by simp
      rw [decide_eq_true (show ((i : Int) > 0) by omega), bcond_t, if_neg hi0, tail_cons]
      show chk (sumOk (tx acc) (tx [32])) (C n _ 31 _ (R11_Print.S2 (T.map tokRow) (cat (tx acc) (tx [32])) (i : Int) _ _ _ _ _ _) sg _) = _
      rw [sum_tx _ _ (by simp; omega), chk_t, cat_tx]
      refine (pbody (acc := acc ++ [32]) (by omega) hL hil hT ht hO q3 (by omega) (go (acc ++ [32]) (by omega))).trans ?_
      simp
theorem pprint_spec {T : List Tok} {os : List (List UInt8)} (hk : 5 ≤ k) (hL : n ≤ 4611686018427387904) (h30 : 30 ≤ n) (hT : T.length < n) (hT6 : T.length ≤ 600) (ho : Bk.outs T = some os) (hp : ∀ t ∈ T, TokPl t ∧ t.text.size ≤ 1000000000 ∧ t.text.size < n) (hs : ∀ o ∈ os, o.length ≤ 122) :
    callW (En n) k 31 [.list false (T.map tokRow)] sg K = K ⟨false, .tup [.str (tx (Bk.joinL os)), .int .i64 0]⟩ sg := by
  rw [callW_at (by omega) rfl, R11_Print.eq]
  exact pprint_loop (by omega) hL h30 hT hT6 T os 0 n [] _ _ _ _ _ _ rfl (by omega) hT ho hp hs (by simp)
end
end Go.Ev
set_option maxRecDepth 4000
namespace Go.Ev.Bk
open PV
theorem isKwL_len (l : List UInt8) (h : isKwL l = true) : l.length ≤ 10 := by
  unfold isKwL at h
  rw [List.any_eq_true] at h
  obtain ⟨x, hx, he⟩ := h
  have he := beq_iff_eq.1 he
  subst he
  have : ∀ y ∈ kwL, y.length ≤ 10 := by decide
  exact this _ hx
theorem isMarkL_len (l : List UInt8) (h : isMarkL l = true) : l.length ≤ 2 := by
  unfold isMarkL at h
  rw [List.any_eq_true] at h
  obtain ⟨x, hx, he⟩ := h
  have he := beq_iff_eq.1 he
  subst he
  have : ∀ y ∈ markL, y.length ≤ 2 := by decide
  exact this _ hx
theorem shortL_len (l : List UInt8) (h : shortL l = true) : l.length ≤ 24 := by
  unfold shortL at h
  rw [Bool.and_eq_true, decide_eq_true_eq] at h
  exact h.2
theorem intOk_len (l : List UInt8) (h : intOk l = true) : l.length ≤ 9 := by
  unfold intOk at h
  rw [Bool.and_eq_true, Bool.and_eq_true, decide_eq_true_eq, decide_eq_true_eq] at h
  obtain ⟨⟨_, h1⟩, h2⟩ := h
  unfold intR at h1 h2
  split at h1
  · simp [RK.bad] at h1
  · rename_i hx
    rw [if_neg hx] at h2
    split at h1
    · simp [RK.bad] at h1
    · rename_i hy
      rw [if_neg hy] at h2
      simp only at h2
      have := congrArg List.length h2
      rw [List.length_take] at this
      omega
theorem textO_len (k : Int) (l o : List UInt8) (h : textO k l = some o) : o.length ≤ 122 := by
  unfold textO at h
  split at h
  · split at h
    · rename_i hx
      cases h
      have := shortL_len _ hx
      omega
    · simp at h
  split at h
  · split at h
    · rename_i hx
      cases h
      have := isKwL_len _ hx
      omega
    · simp at h
  split at h
  · split at h
    · rename_i hx
      cases h
      have := intOk_len _ hx
      omega
    · simp at h
  split at h
  · unfold quoteO at h
    split at h
    · simp at h
    · obtain ⟨e, he, rfl⟩ := Option.map_eq_some_iff.1 h
      have := escO_len _ _ he
      simp
      omega
  split at h
  · split at h
    · rename_i hx
      cases h
      have := isMarkL_len _ hx
      omega
    · simp at h
  split at h
  · split at h
    · rename_i hx
      cases h
      have := shortL_len _ hx
      simp
      omega
    · simp at h
  split at h
  · split at h
    · rename_i hx
      cases h
      have := shortL_len _ hx
      simp
      omega
    · simp at h
  · simp at h

theorem joinL_len (N : Nat) : ∀ ls : List (List UInt8), (∀ l ∈ ls, l.length ≤ N) → (joinL ls).length ≤ ls.length * (N + 1)
  | [], _ => by simp [joinL]
  | [a], h => by
    have := h a (by simp)
    simp [joinL]
    omega
  | a :: b :: t, h => by
    have h1 := h a (by simp)
    have ih := joinL_len N (b :: t) (fun l hl => h l (by simp [hl]))
    simp only [joinL, List.length_append, List.length_cons] at ih ⊢
    rw [Nat.succ_mul]
    omega
theorem outs_in : ∀ (xs : List Tok) (os : List (List UInt8)), outs xs = some os → (∀ o ∈ os, o.length ≤ 122) ∧ os.length = xs.length
  | [], os, h => by simp [outs] at h; subst h; simp
  | x :: t, os, h => by
    obtain ⟨o, os', rfl, h1, h2⟩ := outs_parts x t os h
    obtain ⟨i2, i3⟩ := outs_in t os' h2
    have b := textO_len _ _ _ h1
    refine ⟨fun y hy => ?_, by simp [i3]⟩
    rcases List.mem_cons.1 hy with rfl | hy
    · exact b
    · exact i2 y hy
end Go.Ev.Bk
namespace Go.Ev
open PV
theorem sim_of {T T' : List Tok} {a b : Int} (h : T'.map (fun t => (t.kind, t.text)) = T.map (fun t => (t.kind, t.text))) : SimS ⟨T, a⟩ ⟨T', b⟩ := by
  have hl : T'.length = T.length := by simpa using congrArg List.length h
  have hi : ∀ i, (peekT T a i).kind = (peekT T' b i).kind ∧ (peekT T a i).text = (peekT T' b i).text := by
    intro i
    unfold peekT
    by_cases e : i < T.length
    · rw [if_pos e, if_pos (by omega)]
      have h1 := congrArg (fun l => l[i]?) h
      simp only [List.getElem?_map] at h1
      rw [List.getElem?_eq_getElem e, List.getElem?_eq_getElem (by omega)] at h1
      simp only [Option.map_some, Option.some.injEq, Prod.mk.injEq] at h1
      rw [List.getD_eq_getElem?_getD, List.getD_eq_getElem?_getD, List.getElem?_eq_getElem e, List.getElem?_eq_getElem (by omega)]
      exact ⟨h1.1.symm, h1.2.symm⟩
    · rw [if_neg e, if_neg (by omega)]
      exact ⟨rfl, rfl⟩
  exact ⟨hl.symm, fun i => (hi i).1, fun i => (hi i).2⟩
theorem outM_ok1 {r : SR} {sz : Int} {p : Ps Tree} (h : (outM r sz p).2.2 = 0) (ho : wholeP p ⟨r.toks, sz⟩ 0 ≠ .out) : ∃ x m, wholeP p ⟨r.toks, sz⟩ 0 = .ok x m ∧ deepT 12 x = none ∧ (outM r sz p).1 = x ∧ r.err = 0 := by
  unfold outM at h ⊢
  by_cases he : r.err ≠ 0
  · rw [if_pos he] at h; exact absurd h he
  · rw [if_neg he] at h ⊢
    have he : r.err = 0 := Classical.not_not.1 he
    cases hw : wholeP p ⟨r.toks, sz⟩ 0 with
    | ok x m =>
      rw [hw] at h
      refine ⟨x, m, rfl, ?_⟩
      unfold outT at h ⊢
      dsimp only at h ⊢
      cases hd : deepT 12 x with
      | none => exact ⟨rfl, rfl, he⟩
      | some a => rw [hd] at h; cases h
    | bad a m => rw [hw] at h; cases h
    | out => exact absurd hw ho
theorem blanks_ok {s : ByteArray} (hs : s.size ≤ 1000000000) (h : (resM s).2.2 = 0) : ∃ os, Bk.outs (scanR false s.data.toList).toks = some os ∧ (∀ o ∈ os, o.length ≤ 122) ∧ (tx (Bk.joinL os)).size ≤ 100000 ∧ (resM (tx (Bk.joinL os))).2.2 = 0 ∧ SmT (resM s).1 (resM (tx (Bk.joinL os))).1 := by
  obtain ⟨hf, h6⟩ := scan_fit false s.data.toList s.size (by rw [len_data]; exact hs)
  obtain ⟨x, m, e1, e2, e3, e4⟩ := outM_ok1 h (To.whole (To.module_ (m := 600) (by omega)) 0 (Nat.zero_le _) (by show _ - 0 ≤ 600; exact h6))
  have hpl := (scan_all (P := TokPl) false s.data.toList fun l' a he _ => rdTok_pl l' _ _ he).1
  have hx : (resM s).1 = x := e3
  rw [hx]
  obtain ⟨L, off, hsc⟩ : ∃ L off, scanR false s.data.toList = ⟨L, off, 0⟩ := ⟨(scanR false s.data.toList).toks, (scanR false s.data.toList).at_, by rw [← e4]⟩
  rw [hsc] at e1 h6 hpl ⊢
  obtain ⟨h1, h2, h3⟩ := Bk.scanR_inv false _ L off 0 hsc rfl
  obtain ⟨os, hos⟩ := Bk.outs_of_toks false L _ 0 h1
  obtain ⟨i1, i2⟩ := Bk.outs_in L os hos
  have hj := Bk.joinL_len 122 os i1
  have hm : os.length * (122 + 1) ≤ 600 * 123 := Nat.mul_le_mul (by omega) (by omega)
  have hsz : (tx (Bk.joinL os)).size ≤ 100000 := by rw [tx_size]; omega
  obtain ⟨ts, h4, h5⟩ := Bk.back_scan false L os hos (fun t ht hk => absurd hk (by obtain ⟨a, b, _⟩ := hpl t ht; omega)) h2
  have sim : SimS ⟨L, s.size⟩ ⟨ts, (tx (Bk.joinL os)).size⟩ := sim_of h5
  have ag := s2_whole sim (s2_module sim (g := 601)) 0
  unfold P2 at ag
  have e1 : wholeP (moduleP 601) ⟨L, s.size⟩ 0 = .ok x m := e1
  rw [e1] at ag
  have er : resM (tx (Bk.joinL os)) = outT (wholeP (moduleP 601) ⟨ts, (tx (Bk.joinL os)).size⟩ 0) := by
    unfold resM outM
    rw [tx_list, h4]
    exact if_neg (fun h => h rfl)
  cases hw : wholeP (moduleP 601) ⟨ts, (tx (Bk.joinL os)).size⟩ 0 with
  | ok x' m' =>
    rw [hw] at ag er
    obtain ⟨_, hsm⟩ := ag
    have hd := (sm_deep 12 x x' hsm).1 e2
    unfold outT at er
    dsimp only at er
    rw [hd] at er
    exact ⟨os, hos, i1, hsz, by rw [er], by rw [er]; exact hsm⟩
  | bad a k => rw [hw] at ag; exact ag.elim
  | out => rw [hw] at ag; exact ag.elim
end Go.Ev
set_option maxRecDepth 4000
namespace Go.Ev
open PV Go.RowKit
section
variable {n : Nat} {sg : List (List PV)} {K : Res → Out}
theorem blanks_spec {k d : Nat} {s : ByteArray} (hn : 2000010 ≤ n) (hL : n ≤ 4611686018427387904) (hd : Hgt d (resM s).1) (hk : dD 601 + eD 601 + 6 * d + 100 ≤ k) (h : ∀ e, K ⟨false, .bool true⟩ (sg ++ e)) (hs9 : s.size < 1000000000) (hn9 : 1000000100 < n) : callW (En n) k 8 [.str s] sg K := by
  rw [callW_at (by omega) rfl, Law12_SyntaxBlanks.eq, cB]
  refine alive_spec hn hL (by omega) fun e1 => ?_
  show C n _ 8 _ (Law12_SyntaxBlanks.S0 s false) (sg ++ e1) _
  rw [C_eq, Law12_SyntaxBlanks.cut0, cP]
  have hw : Wid n (resM s).1 := resM_wid (by omega) (by omega)
  have fm := blanks_ok (s := s) (by omega)
  have hm : ∀ (s : ByteArray), s.size ≤ 1000000000 → s.size + 30 < n → ∀ (sg' : List (List PV)) (K : Res → Out), (∀ e, K ⟨false, outV (resM s)⟩ (sg' ++ e)) → callW (En n) (k - 1) 11 [.str s] sg' K := fun s h1 h2 sg' K h => module_res hn hL h1 h2 (by omega) h
  refine hm s (by omega) (by omega) _ _ fun e2 => ?_
  generalize resM s = r at hd hw fm
  obtain ⟨t, a, er⟩ := r
  show C n _ 8 _ (Law12_SyntaxBlanks.S1 s t.kind t.text t.at_ t.end_ (kidRows t.kids) er false) (sg ++ e1 ++ e2) _
  have fin : ∀ e, K ⟨false, .bool true⟩ (sg ++ e1 ++ e2 ++ e) := fun e => by
    have := h (e1 ++ e2 ++ e)
    simp only [List.append_assoc] at this ⊢
    exact this
  have fin0 : K ⟨false, .bool true⟩ (sg ++ e1 ++ e2) := by have := fin []; rwa [List.append_nil] at this
  rw [C_eq, Law12_SyntaxBlanks.cut1]
  by_cases hb : s.size > 2000
  · exact yes (decide_eq_true (by omega)) fin0
  refine no (decide_eq_false (by omega)) ?_
  by_cases h0 : er = 0
  · obtain ⟨os, ho, hl, hz, g1, g2⟩ := fm h0
    obtain ⟨i1, i2⟩ := Bk.outs_in _ os ho
    refine no (show (er != 0) = false by simp [h0]) ?_
    rw [C_eq, Law12_SyntaxBlanks.cut2, cP]
    refine refScan_spec (by omega) (by omega) (by omega) ?_
    obtain ⟨hf, h6⟩ := scan_fit false s.data.toList s.size (by rw [len_data]; omega)
    have hall := (scan_all (P := fun t => TokPl t ∧ t.text.size ≤ 1000000000) false s.data.toList fun l' a he hL => ⟨rdTok_pl l' _ _ he, (rdTok_ok false l' _ _ (by rw [len_data] at hL; omega) he).1⟩).1
    show C n _ 8 _ (Law12_SyntaxBlanks.S3 s t.kind t.text t.at_ t.end_ (kidRows t.kids) er ((scanR false s.data.toList).toks.map tokRow) false _) (sg ++ e1 ++ e2) _
    rw [C_eq, Law12_SyntaxBlanks.cut3, cP, pprint_spec (by omega) hL (by omega) (by omega) h6 ho (fun t ht => ⟨(hall t ht).1, (hall t ht).2, by have := (hall t ht).2; omega⟩) hl]
    show C n _ 8 _ (Law12_SyntaxBlanks.S4 s t.kind t.text t.at_ t.end_ (kidRows t.kids) er ((scanR false s.data.toList).toks.map tokRow) (tx (Bk.joinL os)) 0 false _) (sg ++ e1 ++ e2) _
    rw [C_eq, Law12_SyntaxBlanks.cut4, cP]
    refine hm _ (by omega) (by omega) _ _ fun e3 => ?_
    generalize resM (tx (Bk.joinL os)) = r' at g1 g2
    obtain ⟨t', a', er'⟩ := r'
    show C n _ 8 _ (Law12_SyntaxBlanks.S5 s t.kind t.text t.at_ t.end_ (kidRows t.kids) er' _ _ 0 t'.kind t'.text t'.at_ t'.end_ (kidRows t'.kids) false _) (sg ++ e1 ++ e2 ++ e3) _
    have g1 : er' = 0 := g1
    rw [C_eq, Law12_SyntaxBlanks.cut5, show (er' == 0) = true by simp [g1]]
    show bcond true (bcond true (cB _ 25 [nodeV t, nodeV t'] _ (pan K) _) _) _
    rw [bcond_t, bcond_t, cB_of _ (fun K => psame_spec hL d _ t t' K hd (by omega) hw), show sameT false t t' = true from g2]
    exact fin e3
  · exact yes (show (er != 0) = true by simp [h0]) fin0
end
theorem blanks_calls {W : World} (hT : ∀ c : Nat, c < 256 → W.cell? ⟨0, c, none⟩ = some (.int .u8 (if Lib.isSp (UInt8.ofNat c) then 1 else 0))) (s : ByteArray) (hs : s.size ≤ 1048576) :
    Calls Go.Proofs.Tryz.prog 8 #[.string s] W fun e W' => e = .returned (.bool true) ∧ Below W.heap.size W W' := by
  obtain ⟨d, hd⟩ := hgt_ex (resM s).1
  obtain ⟨n, hn⟩ : ∃ n : Nat, n = 2000000010 := ⟨_, rfl⟩
  obtain ⟨k, hk⟩ : ∃ k : Nat, k = dD 601 + eD 601 + 6 * d + 100 := ⟨_, rfl⟩
  exact law_calls (n := n) (k := k) hT (fun K h => blanks_spec (by omega) (by omega) hd (by omega) (fun e => h _) (by omega) (by omega)) (args1 (.str s))
end Go.Ev
