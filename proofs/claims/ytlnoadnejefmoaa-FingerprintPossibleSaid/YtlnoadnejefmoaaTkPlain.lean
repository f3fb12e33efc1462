/- Tokens of a source text on lists of bytes: what is read, what is printed, and that what is printed is read back. No condition. -/
import Derived.Lib.Strings
import Derived.WalkKit
import Derived.MapKept
import Derived.Lib.IndexLaws
set_option linter.unusedVariables false
set_option linter.unusedSimpArgs false
namespace Go.Proofs.Ytlnoadnejefmoaa

/-! Tokens of a source text, on lists of bytes. -/
def pfxL (p l : List UInt8) : Bool := p.isPrefixOf l
def isDigitI (c : Int) : Bool := decide (48 ≤ c) && decide (c ≤ 57)
def isLetterI (c : Int) : Bool := (decide (97 ≤ c) && decide (c ≤ 122)) || (decide (65 ≤ c) && decide (c ≤ 90)) || c == 95
def isWordB (b : UInt8) : Bool := isLetterI b.toNat || isDigitI b.toNat
def isDigitB (b : UInt8) : Bool := isDigitI b.toNat
def blankI (c : Int) : Bool := c == 32 || c == 9 || c == 10
def wordLen (l : List UInt8) : Nat := (l.takeWhile isWordB).length
def digLen (l : List UInt8) : Nat := (l.takeWhile isDigitB).length

theorem wordLen_le (l : List UInt8) : wordLen l ≤ l.length := (List.takeWhile_sublist _).length_le
theorem digLen_le (l : List UInt8) : digLen l ≤ l.length := (List.takeWhile_sublist _).length_le
theorem wordLen_cons (c : UInt8) (l : List UInt8) : wordLen (c :: l) = if isWordB c then wordLen l + 1 else 0 := by
  unfold wordLen
  rw [List.takeWhile_cons]
  cases isWordB c <;> simp
theorem digLen_cons (c : UInt8) (l : List UInt8) : digLen (c :: l) = if isDigitB c then digLen l + 1 else 0 := by
  unfold digLen
  rw [List.takeWhile_cons]
  cases isDigitB c <;> simp

/-- The keywords and the marks. -/
def kwL : List (List UInt8) := [[105, 109, 112, 111, 114, 116], [99, 108, 97, 115, 115], [105, 110, 116, 101, 114, 102, 97, 99, 101], [101, 120, 116, 101, 110, 100, 115], [105, 109, 112, 108, 101, 109, 101, 110, 116, 115], [102, 117, 110, 99], [118, 97, 114], [114, 101, 116, 117, 114, 110], [105, 102], [101, 108, 115, 101], [119, 104, 105, 108, 101], [110, 101, 119], [116, 114, 117, 101], [102, 97, 108, 115, 101], [110, 117, 108, 108], [116, 104, 105, 115]]
def markL : List (List UInt8) := [[123], [125], [40], [41], [59], [44], [58], [46], [61], [61, 61], [33, 61], [60], [62], [43], [45], [42], [47], [37], [33], [38, 38], [124, 124]]
def isKwL (l : List UInt8) : Bool := kwL.any (l == ·)
def isMarkL (l : List UInt8) : Bool := markL.any (l == ·)
/-- A name, of any length. -/
def nameL (l : List UInt8) : Bool := (match l with | [] => false | c :: _ => isLetterI c.toNat) && wordLen l == l.length && !isKwL l

/-- The token at the beginning of a text: its error (0: none), kind, text and length. -/
structure RT where
  err : Int
  kind : Int
  text : List UInt8
  len : Nat
deriving DecidableEq
def RT.bad (e : Int) : RT := ⟨e, 0, [], 0⟩
def intR (l : List UInt8) : RT := if l.head? == some 48 && decide (1 < digLen l) then .bad 11 else if 9 < digLen l then .bad 4 else ⟨0, 3, l.take (digLen l), digLen l⟩
/-- A literal, from behind its first quotation mark on: n bytes of it are read, which mean acc. -/
def litGo : List UInt8 → Nat → List UInt8 → RT
  | [], _, _ => .bad 11
  | c :: t, n, acc =>
    if c.toNat = 34 then if 60 < acc.length then .bad 4 else ⟨0, 4, acc, n + 1⟩
    else if c.toNat < 32 ∨ 126 < c.toNat then .bad 11
    else if c.toNat = 92 then
      match t with
      | [] => .bad 11
      | d :: u => if d.toNat = 34 ∨ d.toNat = 92 then litGo u (n + 2) (acc ++ [d]) else if d.toNat = 110 then litGo u (n + 2) (acc ++ [10]) else .bad 11
    else litGo t (n + 1) (acc ++ [c])
def litR (l : List UInt8) : RT := litGo (l.drop 1) 1 []
def metaN (l : List UInt8) : Nat := if (l.drop 1).head? = some 36 then 2 else 1
def metaT (l : List UInt8) : List UInt8 := (l.drop (metaN l)).take (wordLen (l.drop (metaN l)))
def metaR (l : List UInt8) : RT := if !nameL (metaT l) then .bad 11 else if 24 < (metaT l).length then .bad 4 else ⟨0, if metaN l = 2 then 7 else 6, metaT l, metaN l + (metaT l).length⟩
def markR (l : List UInt8) : RT := if isMarkL (l.take 2) then ⟨0, 5, l.take 2, (l.take 2).length⟩ else if isMarkL (l.take 1) then ⟨0, 5, l.take 1, 1⟩ else .bad 11
def wordT (l : List UInt8) : List UInt8 := l.take (wordLen l)
def wordR (l : List UInt8) : RT := if isKwL (wordT l) then ⟨0, 2, wordT l, (wordT l).length⟩ else if 24 < (wordT l).length then .bad 4 else ⟨0, 1, wordT l, (wordT l).length⟩
def rdTok (pat : Bool) (l : List UInt8) : RT :=
  match l with
  | [] => .bad 11
  | c :: _ =>
    if isLetterI c.toNat then wordR l
    else if isDigitI c.toNat then intR l
    else if c.toNat = 34 then litR l
    else if c.toNat = 36 ∧ pat = true then metaR l
    else markR l

/-- How many blanks and bytes of comments; inside: in a comment. -/
def skipGo (inside : Bool) : List UInt8 → Nat
  | [] => 0
  | c :: t =>
    if inside then if c.toNat = 10 then skipGo false t + 1 else skipGo true t + 1
    else if blankI c.toNat then skipGo false t + 1
    else if c.toNat = 47 ∧ (t.head?.map (·.toNat)) = some 47 then skipGo true t + 1
    else 0

structure Tok where
  kind : Int
  text : ByteArray
  at_ : Int
  end_ : Int
deriving DecidableEq
/-- The answer of a scan: its tokens, or the offset and the error. -/
structure SR where
  toks : List Tok
  off : Int
  err : Int
def tx (l : List UInt8) : ByteArray := ⟨l.toArray⟩
def scanW (pat : Bool) : Nat → List UInt8 → Nat → List Tok → SR
  | 0, _, _, acc => ⟨acc, 0, 0⟩
  | f + 1, l, at_, acc =>
    match l with
    | [] => ⟨acc, 0, 0⟩
    | _ =>
      if (rdTok pat l).err = 0 then
        if 600 ≤ acc.length then ⟨[], at_, 4⟩
        else scanW pat f ((l.drop (rdTok pat l).len).drop (skipGo false (l.drop (rdTok pat l).len))) (at_ + (rdTok pat l).len + skipGo false (l.drop (rdTok pat l).len))
          (acc ++ [⟨(rdTok pat l).kind, tx (rdTok pat l).text, at_, (at_ + (rdTok pat l).len : Nat)⟩])
      else ⟨[], at_, (rdTok pat l).err⟩
def scanR (pat : Bool) (l : List UInt8) : SR := scanW pat (l.length + 1) (l.drop (skipGo false l)) (skipGo false l) []

theorem skipGo_le : ∀ (l : List UInt8) (b : Bool), skipGo b l ≤ l.length
  | [], b => by simp [skipGo]
  | c :: t, b => by
    have h1 := skipGo_le t true
    have h2 := skipGo_le t false
    unfold skipGo
    simp only [List.length_cons]
    split <;> split <;> first | omega | (split <;> omega)

theorem skipGo_cons (b : Bool) (c : UInt8) (t : List UInt8) : skipGo b (c :: t) =
    if b then if c.toNat = 10 then skipGo false t + 1 else skipGo true t + 1
    else if blankI c.toNat then skipGo false t + 1
    else if c.toNat = 47 ∧ (t.head?.map (·.toNat)) = some 47 then skipGo true t + 1
    else 0 := rfl
/-- A comment's begin: from there on it is as in a comment. -/
theorem skipGo_slash (l : List UInt8) (h : pfxL [47, 47] l = true) : skipGo false l = skipGo true l := by
  match l, h with
  | [], h => simp [pfxL, List.isPrefixOf] at h
  | [a], h => simp [pfxL, List.isPrefixOf] at h
  | a :: b :: t, h =>
    simp [pfxL, List.isPrefixOf] at h
    obtain ⟨rfl, rfl⟩ := h
    rfl
/-- In a comment: to the line feed, or to the end. -/
theorem skipGo_none : ∀ (l : List UInt8), (∀ k : Nat, l[k]? ≠ some 10) → skipGo true l = l.length
  | [], _ => rfl
  | c :: t, h => by
    have h0 : c.toNat ≠ 10 := fun e => h 0 (by simp; exact UInt8.toNat_inj.1 e)
    rw [skipGo_cons, if_pos rfl, if_neg h0, skipGo_none t (fun k => by simpa using h (k + 1))]
    rfl
theorem skipGo_some : ∀ (l : List UInt8) (o : Nat), l[o]? = some 10 → (∀ k : Nat, k < o → l[k]? ≠ some 10) → skipGo true l = o + skipGo false (l.drop o)
  | [], o, h, _ => by simp at h
  | c :: t, 0, h, _ => by
    simp at h
    subst h
    simp [skipGo_cons, blankI]
  | c :: t, o + 1, h, hk => by
    have h0 : c.toNat ≠ 10 := fun e => hk 0 (by omega) (by simp; exact UInt8.toNat_inj.1 e)
    rw [skipGo_cons, if_pos rfl, if_neg h0, skipGo_some t o (by simpa using h) (fun k hk1 => by simpa using hk (k + 1) (by omega))]
    simp
    omega
theorem skipGo_stop (l : List UInt8) (c : UInt8) (t : List UInt8) (hl : l = c :: t) (hb : blankI c.toNat = false) (h : pfxL [47, 47] l = false) : skipGo false l = 0 := by
  subst hl
  rw [skipGo_cons, if_neg (by simp), if_neg (by simp [hb])]
  rw [if_neg]
  rintro ⟨h1, h2⟩
  have e1 : c = 47 := UInt8.toNat_inj.1 h1
  subst e1
  cases t with
  | nil => simp at h2
  | cons d u =>
    simp at h2
    have e2 : d = 47 := UInt8.toNat_inj.1 h2
    subst e2
    simp [pfxL, List.isPrefixOf] at h

section
variable {c d : UInt8} {t u : List UInt8} {n : Nat} {acc : List UInt8}
theorem litGo_q (h : c.toNat = 34) : litGo (c :: t) n acc = if 60 < acc.length then .bad 4 else ⟨0, 4, acc, n + 1⟩ := by
  cases t <;> simp [litGo, h]
theorem litGo_bad (h : c.toNat ≠ 34) (h2 : c.toNat < 32 ∨ 126 < c.toNat) : litGo (c :: t) n acc = .bad 11 := by
  cases t <;> simp [litGo, h, h2]
theorem litGo_end (h : c.toNat = 92) : litGo [c] n acc = .bad 11 := by simp [litGo, h]
theorem litGo_esc (h : c.toNat = 92) (h2 : d.toNat = 34 ∨ d.toNat = 92) : litGo (c :: d :: u) n acc = litGo u (n + 2) (acc ++ [d]) := by
  rw [litGo]; simp [h, h2]
theorem litGo_escn (h : c.toNat = 92) (h2 : d.toNat = 110) : litGo (c :: d :: u) n acc = litGo u (n + 2) (acc ++ [10]) := by
  rw [litGo]; simp [h, h2]
theorem litGo_escx (h : c.toNat = 92) (h1 : d.toNat ≠ 34) (h2 : d.toNat ≠ 92) (h3 : d.toNat ≠ 110) : litGo (c :: d :: u) n acc = .bad 11 := by
  rw [litGo]; simp [h, h1, h2, h3]
theorem litGo_ch (h : c.toNat ≠ 34) (h1 : 32 ≤ c.toNat) (h2 : c.toNat ≤ 126) (h3 : c.toNat ≠ 92) : litGo (c :: t) n acc = litGo t (n + 1) (acc ++ [c]) := by
  cases t <;> simp [litGo, h, h3] <;> omega
end

theorem litGo_len : ∀ (k : Nat) (l : List UInt8) (n : Nat) (acc : List UInt8), l.length ≤ k → (litGo l n acc).err = 0 → n < (litGo l n acc).len ∧ (litGo l n acc).len ≤ n + l.length
  | 0, [], n, acc, _, h => by simp [litGo, RT.bad] at h
  | 0, c :: t, n, acc, hk, h => by simp at hk
  | k + 1, [], n, acc, _, h => by simp [litGo, RT.bad] at h
  | k + 1, c :: t, n, acc, hk, h => by
    simp only [List.length_cons] at hk ⊢
    by_cases h1 : c.toNat = 34
    · rw [litGo_q h1] at h ⊢
      split at h
      · simp [RT.bad] at h
      · rename_i hx
        rw [if_neg hx]
        simp only
        omega
    · by_cases h2 : c.toNat < 32 ∨ 126 < c.toNat
      · rw [litGo_bad h1 h2] at h; simp [RT.bad] at h
      · by_cases h3 : c.toNat = 92
        · cases t with
          | nil => rw [litGo_end h3] at h; simp [RT.bad] at h
          | cons d u =>
            simp only [List.length_cons] at hk ⊢
            by_cases h4 : d.toNat = 34 ∨ d.toNat = 92
            · rw [litGo_esc h3 h4] at h ⊢
              have := litGo_len k u (n + 2) _ (by omega) h
              omega
            · by_cases h5 : d.toNat = 110
              · rw [litGo_escn h3 h5] at h ⊢
                have := litGo_len k u (n + 2) _ (by omega) h
                omega
              · rw [litGo_escx h3 (by omega) (by omega) h5] at h; simp [RT.bad] at h
        · rw [litGo_ch h1 (by omega) (by omega) h3] at h ⊢
          have := litGo_len k t (n + 1) _ (by omega) h
          omega
theorem wordLen_pos (c : UInt8) (t : List UInt8) (h : isLetterI c.toNat = true) : 0 < wordLen (c :: t) := by
  rw [wordLen_cons, if_pos (by unfold isWordB; rw [h]; rfl)]
  omega
theorem rdTok_len (pat : Bool) (l : List UInt8) (h : (rdTok pat l).err = 0) : 0 < (rdTok pat l).len ∧ (rdTok pat l).len ≤ l.length := by
  cases l with
  | nil => simp [rdTok, RT.bad] at h
  | cons c t =>
    have hw := wordLen_le (c :: t)
    have hd := digLen_le (c :: t)
    unfold rdTok at h ⊢
    simp only at h ⊢
    by_cases h1 : isLetterI c.toNat = true
    · rw [if_pos h1] at h ⊢
      have hp := wordLen_pos c t h1
      have hl : (wordT (c :: t)).length = wordLen (c :: t) := by unfold wordT; rw [List.length_take]; omega
      unfold wordR at h ⊢
      by_cases h2 : isKwL (wordT (c :: t)) = true
      · rw [if_pos h2]; simp only; omega
      · rw [if_neg h2] at h ⊢
        by_cases h3 : 24 < (wordT (c :: t)).length
        · rw [if_pos h3] at h; simp [RT.bad] at h
        · rw [if_neg h3]; simp only; omega
    · rw [if_neg h1] at h ⊢
      by_cases h2 : isDigitI c.toNat = true
      · rw [if_pos h2] at h ⊢
        have hp : 0 < digLen (c :: t) := by rw [digLen_cons, if_pos (show isDigitB c = true from h2)]; omega
        unfold intR at h ⊢
        split at h
        · simp [RT.bad] at h
        · rename_i hx
          rw [if_neg hx]
          split at h
          · simp [RT.bad] at h
          · rename_i hy
            rw [if_neg hy]
            simp only; omega
      · rw [if_neg h2] at h ⊢
        by_cases h3 : c.toNat = 34
        · rw [if_pos h3] at h ⊢
          unfold litR at h ⊢
          have := litGo_len t.length ((c :: t).drop 1) 1 [] (by simp) h
          simp at this ⊢
          omega
        · rw [if_neg h3] at h ⊢
          by_cases h4 : c.toNat = 36 ∧ pat = true
          · rw [if_pos h4] at h ⊢
            unfold metaR at h ⊢
            split at h
            · simp [RT.bad] at h
            · rename_i hx
              rw [if_neg hx]
              split at h
              · simp [RT.bad] at h
              · rename_i hy
                rw [if_neg hy]
                simp only
                have e1 : 1 ≤ metaN (c :: t) := by unfold metaN; split <;> omega
                have e2 : (metaT (c :: t)).length ≤ ((c :: t).drop (metaN (c :: t))).length := (List.take_sublist _ _).length_le
                rw [List.length_drop] at e2
                have e3 : metaN (c :: t) ≤ (c :: t).length := by
                  unfold metaN
                  split
                  · rename_i hz
                    cases t with
                    | nil => simp at hz
                    | cons d u => simp
                  · simp
                omega
          · rw [if_neg h4] at h ⊢
            unfold markR at h ⊢
            split at h
            · rename_i hx
              rw [if_pos hx]
              simp only [List.length_take, List.length_cons]
              omega
            · rename_i hx
              rw [if_neg hx]
              split at h
              · rename_i hy
                rw [if_pos hy]
                simp
              · simp [RT.bad] at h
end Go.Proofs.Ytlnoadnejefmoaa
set_option linter.unusedVariables false
set_option linter.unusedSimpArgs false
namespace Go.Proofs.Ytlnoadnejefmoaa
open Go.RowKit

theorem byte_at (s : ByteArray) (k : Nat) (h : k < s.size) : s.data.toList.drop k = s[k] :: s.data.toList.drop (k + 1) := by
  have h' : k < s.data.toList.length := by simpa using h
  rw [List.drop_eq_getElem_cons h']; rfl
theorem len_data (s : ByteArray) : s.data.toList.length = s.size := by rw [Array.length_toList]; rfl
theorem ba_ext {a b : ByteArray} (h : a.data.toList = b.data.toList) : a = b := by
  obtain ⟨⟨a⟩⟩ := a
  obtain ⟨⟨b⟩⟩ := b
  simp at h
  rw [h]
theorem tx_list (l : List UInt8) : (tx l).data.toList = l := rfl
theorem tx_data (s : ByteArray) : tx s.data.toList = s := ba_ext rfl
theorem tx_inj {a b : List UInt8} (h : tx a = tx b) : a = b := congrArg (fun s : ByteArray => s.data.toList) h
theorem tx_size (l : List UInt8) : (tx l).size = l.length := by simp [tx, ByteArray.size]
theorem ext_tx (s : ByteArray) (a b : Nat) : s.extract a b = tx ((s.data.toList.drop a).take (b - a)) := ba_ext (Lib.extract_data s a b)
theorem ext0_tx (s : ByteArray) (b : Nat) : s.extract 0 b = tx (s.data.toList.take b) := by rw [ext_tx]; rfl
theorem extE_list (s : ByteArray) (a : Nat) : (s.extract a s.size).data.toList = s.data.toList.drop a := by
  rw [Lib.extract_data, List.take_of_length_le]
  rw [List.length_drop, len_data]
  omega
theorem str_eqb (a b : ByteArray) : (a.toList == b.toList) = (a.data.toList == b.data.toList) := by rw [Lib.toList_data, Lib.toList_data]
theorem str_eq (a b : ByteArray) : (a.toList = b.toList) = (a.data.toList = b.data.toList) := by rw [Lib.toList_data, Lib.toList_data]
theorem head_at (s : ByteArray) (h : 0 < s.size) : ∃ t, s.data.toList = s[0] :: t := ⟨_, by have := byte_at s 0 h; simpa using this⟩
theorem ret_boolE {a b : Bool} (h : a = b) : Ending.returned (.bool a) = .returned (.bool b) := by rw [h]
theorem ret_intE {k : IntKind} {a b : Int} (h : a = b) : Ending.returned (.int k a) = .returned (.int k b) := by rw [h]
theorem ret_strE {a b : ByteArray} (h : a = b) : Ending.returned (.string a) = .returned (.string b) := by rw [h]
theorem isKw_list (l : List (List UInt8)) (s : ByteArray) : (l.map tx).any (s == ·) = l.any (s.data.toList == ·) := by
  rw [List.any_map]
  congr 1
  funext x
  show (s == tx x) = (s.data.toList == x)
  rw [Bool.eq_iff_iff]
  rw [MapKept.bytes_beq, beq_iff_eq]
  exact ⟨fun h => by rw [h]; rfl, fun h => by rw [← h]; exact (tx_data s).symm⟩
theorem toList_nil (s : ByteArray) (h : s.size = 0) : s.toList = [] := by
  rw [Lib.toList_data]
  exact List.eq_nil_of_length_eq_zero (by rw [len_data]; exact h)
theorem toList_cons (s : ByteArray) (h : 0 < s.size) : ¬ s.toList = [] := by
  rw [Lib.toList_data]
  intro e
  have := len_data s
  rw [e] at this
  simp at this
  omega
theorem wordT_data (s : ByteArray) : ((s.extract 0 (wordLen s.data.toList)).toList = s.toList) = (wordLen s.data.toList = s.data.toList.length) := by
  rw [Lib.toList_data, Lib.toList_data, ext0_tx, tx_list, eq_iff_iff]
  have h := wordLen_le s.data.toList
  constructor
  · intro e
    have := congrArg List.length e
    rw [List.length_take] at this
    omega
  · intro e
    rw [e, List.take_length]
/-! The same on strings: no rule of the walk looks into these. -/
def pfxB (p s : ByteArray) : Bool := pfxL p.data.toList s.data.toList
def idxB (s : ByteArray) (c : UInt8) : Int := Lib.indexByte s.data.toList c
def nameB (s : ByteArray) : Bool := nameL s.data.toList
def kwB (s : ByteArray) : Bool := isKwL s.data.toList
def markB (s : ByteArray) : Bool := isMarkL s.data.toList
def skipB (s : ByteArray) : Nat := skipGo false s.data.toList
def wordS (s : ByteArray) : ByteArray := s.extract 0 (wordLen s.data.toList)
theorem idxB_ge (s : ByteArray) (c : UInt8) : -1 ≤ idxB s c := Lib.indexByte_ge _ _
theorem idxB_lt (s : ByteArray) (c : UInt8) (h : 0 < s.size) : idxB s c < s.size := by
  unfold idxB
  rcases Int.lt_or_le (Lib.indexByte s.data.toList c) 0 with h1 | h1
  · omega
  · obtain ⟨o, ho⟩ := Int.eq_ofNat_of_zero_le h1
    have h2 := (Lib.indexByte_some ho).1
    have h3 := (List.getElem?_eq_some_iff.1 h2).1
    rw [len_data] at h3
    omega
/-- Behind the two slashes of a comment. -/
theorem comment_none (s : ByteArray) (k : Nat) (hk : k ≤ s.size) (hp : pfxB ⟨#[47, 47]⟩ (s.extract k s.size) = true) (hi : idxB (s.extract k s.size) 10 < 0) : k + skipGo false (s.data.toList.drop k) = s.size := by
  unfold pfxB at hp
  unfold idxB at hi
  rw [extE_list] at hp hi
  rw [skipGo_slash _ hp]
  have e : Lib.indexByte (s.data.toList.drop k) 10 = -1 := by have := Lib.indexByte_ge (s.data.toList.drop k) 10; omega
  rw [skipGo_none _ (Lib.indexByte_none e), List.length_drop, len_data]
  omega
theorem comment_some (s : ByteArray) (k : Nat) (hk : k ≤ s.size) (hp : pfxB ⟨#[47, 47]⟩ (s.extract k s.size) = true) (hi : 0 ≤ idxB (s.extract k s.size) 10) :
    ∃ o : Nat, idxB (s.extract k s.size) 10 = o ∧ 0 < o ∧ k + o < s.size ∧ k + skipGo false (s.data.toList.drop k) = (k + o) + skipGo false (s.data.toList.drop (k + o)) := by
  obtain ⟨o, ho⟩ := Int.eq_ofNat_of_zero_le hi
  refine ⟨o, ho, ?_⟩
  unfold pfxB at hp
  unfold idxB at ho
  rw [extE_list] at hp ho
  obtain ⟨h1, h2⟩ := Lib.indexByte_some ho
  have h3 := (List.getElem?_eq_some_iff.1 h1).1
  rw [List.length_drop, len_data] at h3
  have hpos : 0 < o := by
    rcases Nat.eq_zero_or_pos o with h | h
    · subst h
      exfalso
  
      match hd : s.data.toList.drop k, hp, h1 with
      | [], hp, h1 => simp at h1
      | [a], hp, h1 => simp [pfxL, List.isPrefixOf] at hp
      | a :: b :: t, hp, h1 =>
        simp [pfxL, List.isPrefixOf] at hp
        simp at h1
        obtain ⟨rfl, _⟩ := hp
        exact absurd h1 (by decide)
    · exact h
  refine ⟨hpos, by omega, ?_⟩
  rw [skipGo_slash _ hp, skipGo_some _ o h1 h2, List.drop_drop]
  omega
theorem post_res {P : Program} {fn : Func} {R : Ending → World → Prop} {a : Act} {w : World} (hd : a.defers = []) (h : ∃ v, (results fn a.tmps).run P w = .ok v w ∧ R (.returned v) w) : bodyPost P fn R .ret a w := ⟨hd, h⟩
theorem bcell {W w1 : World} (hb : Below W.heap.size W w1) : (∀ b o, b < W.heap.size → w1.cell? ⟨b, o, none⟩ = W.cell? ⟨b, o, none⟩) ∧ (∀ b o, b < W.heap.size → w1.frozen? ⟨b, o, none⟩ = W.frozen? ⟨b, o, none⟩) :=
  ⟨fun b o h => hb.cell (p := ⟨b, o, none⟩) h, fun b o h => hb.frozen (p := ⟨b, o, none⟩) h⟩
theorem pfx2 (a b : UInt8) (s : ByteArray) (h : pfxB ⟨#[a, b]⟩ s = true) : ∃ t, s.data.toList = a :: b :: t := by
  unfold pfxB pfxL at h
  match hd : s.data.toList, h with
  | [], h => simp [List.isPrefixOf] at h
  | [x], h => simp [List.isPrefixOf] at h
  | x :: y :: t, h =>
    simp [List.isPrefixOf] at h
    obtain ⟨rfl, rfl⟩ := h
    exact ⟨t, rfl⟩
theorem wordS_data (s : ByteArray) : (wordS s).data.toList = wordT s.data.toList := by unfold wordS wordT; rw [ext0_tx]; rfl
theorem wordS_size (s : ByteArray) : (wordS s).size = (wordT s.data.toList).length := by rw [← len_data, wordS_data]
end Go.Proofs.Ytlnoadnejefmoaa
set_option linter.unusedVariables false
set_option linter.unusedSimpArgs false
namespace Go.Proofs.Ytlnoadnejefmoaa

/-! What is printed. -/
/-- The inside of a literal with these contents, where there is one. -/
def escO : List UInt8 → Option (List UInt8)
  | [] => some []
  | c :: t => if c.toNat = 34 ∨ c.toNat = 92 then (escO t).map fun e => 92 :: c :: e
    else if c.toNat = 10 then (escO t).map fun e => 92 :: 110 :: e
    else if c.toNat < 32 ∨ 126 < c.toNat then none
    else (escO t).map fun e => c :: e
def quoteO (l : List UInt8) : Option (List UInt8) := if 60 < l.length then none else (escO l).map fun e => 34 :: (e ++ [34])
def shortL (l : List UInt8) : Bool := nameL l && decide (l.length ≤ 24)
def intOk (l : List UInt8) : Bool := (match l with | [] => false | c :: _ => isDigitI c.toNat) && decide ((intR l).err = 0) && decide ((intR l).text = l)
def textO (k : Int) (l : List UInt8) : Option (List UInt8) :=
  if k = 1 then if shortL l then some l else none
  else if k = 2 then if isKwL l then some l else none
  else if k = 3 then if intOk l then some l else none
  else if k = 4 then quoteO l
  else if k = 5 then if isMarkL l then some l else none
  else if k = 6 then if shortL l then some (36 :: l) else none
  else if k = 7 then if shortL l then some (36 :: 36 :: l) else none
  else none
def Tok.out (x : Tok) : Option (List UInt8) := textO x.kind x.text.data.toList
/-- Texts with a blank between them. -/
def joinL : List (List UInt8) → List UInt8
  | [] => []
  | [a] => a
  | a :: b :: t => a ++ 32 :: joinL (b :: t)
def outs : List Tok → Option (List (List UInt8))
  | [] => some []
  | x :: t => match x.out, outs t with
    | some a, some l => some (a :: l)
    | _, _ => none
/-- The printed text, where all are tokens. -/
def printO (xs : List Tok) : Option (List UInt8) := (outs xs).map joinL

theorem escO_len : ∀ l e, escO l = some e → e.length ≤ 2 * l.length
  | [], e, h => by simp [escO] at h; subst h; simp
  | c :: t, e, h => by
    unfold escO at h
    have ih := escO_len t
    split at h
    · obtain ⟨a, ha, rfl⟩ := Option.map_eq_some_iff.1 h
      have := ih a ha
      simp; omega
    · split at h
      · obtain ⟨a, ha, rfl⟩ := Option.map_eq_some_iff.1 h
        have := ih a ha
        simp; omega
      · split at h
        · simp at h
        · obtain ⟨a, ha, rfl⟩ := Option.map_eq_some_iff.1 h
          have := ih a ha
          simp; omega
theorem escO_esc (c : UInt8) (t : List UInt8) (h : c.toNat = 34 ∨ c.toNat = 92) : escO (c :: t) = (escO t).map fun e => 92 :: c :: e := by rw [escO, if_pos h]
theorem escO_n (c : UInt8) (t : List UInt8) (h : c.toNat = 10) : escO (c :: t) = (escO t).map fun e => 92 :: 110 :: e := by rw [escO, if_neg (by omega), if_pos h]
theorem escO_no (c : UInt8) (t : List UInt8) (h1 : c.toNat ≠ 10) (h : c.toNat < 32 ∨ 126 < c.toNat) : escO (c :: t) = none := by rw [escO, if_neg (by omega), if_neg h1, if_pos h]
theorem escO_ch (c : UInt8) (t : List UInt8) (h1 : c.toNat ≠ 34) (h2 : c.toNat ≠ 92) (h : 32 ≤ c.toNat) (h3 : c.toNat ≤ 126) : escO (c :: t) = (escO t).map fun e => c :: e := by rw [escO, if_neg (by omega), if_neg (by omega), if_neg (by omega)]
end Go.Proofs.Ytlnoadnejefmoaa
set_option linter.unusedVariables false
set_option linter.unusedSimpArgs false
namespace Go.Proofs.Ytlnoadnejefmoaa

/-! ### The tokens from a token's place on, without a limit -/
def tokAt (pat : Bool) (l : List UInt8) (p : Nat) : Tok := ⟨(rdTok pat l).kind, tx (rdTok pat l).text, p, (p + (rdTok pat l).len : Nat)⟩
/-- What stands behind the first token and the blanks that follow it, and how far that is. -/
def gapN (pat : Bool) (l : List UInt8) : Nat := skipGo false (l.drop (rdTok pat l).len)
def stepN (pat : Bool) (l : List UInt8) : Nat := (rdTok pat l).len + gapN pat l
def restL (pat : Bool) (l : List UInt8) : List UInt8 := (l.drop (rdTok pat l).len).drop (gapN pat l)
theorem restL_eq (pat : Bool) (l : List UInt8) : restL pat l = l.drop (stepN pat l) := by unfold restL stepN; rw [List.drop_drop]
def toksF (pat : Bool) : Nat → List UInt8 → Nat → Option (List Tok)
  | 0, l, _ => if l = [] then some [] else none
  | f + 1, l, p => if l = [] then some [] else if (rdTok pat l).err = 0 then (toksF pat f (restL pat l) (p + stepN pat l)).map (tokAt pat l p :: ·) else none
def toks (pat : Bool) (l : List UInt8) (p : Nat) : Option (List Tok) := toksF pat l.length l p
theorem restL_lt (pat : Bool) (l : List UInt8) (he : (rdTok pat l).err = 0) : (restL pat l).length < l.length := by
  have h := rdTok_len pat l he
  unfold restL
  rw [List.length_drop, List.length_drop]
  omega
theorem toksF_enough (pat : Bool) : ∀ (n f g : Nat) (l : List UInt8) (p : Nat), l.length ≤ n → l.length ≤ f → l.length ≤ g → toksF pat f l p = toksF pat g l p
  | n, 0, g, l, p, hn, hf, hg => by
    obtain rfl := List.eq_nil_of_length_eq_zero (Nat.le_zero.1 hf)
    cases g <;> simp [toksF]
  | n, f + 1, 0, l, p, hn, hf, hg => by
    obtain rfl := List.eq_nil_of_length_eq_zero (Nat.le_zero.1 hg)
    simp [toksF]
  | 0, f + 1, g + 1, l, p, hn, hf, hg => by
    obtain rfl := List.eq_nil_of_length_eq_zero (Nat.le_zero.1 hn)
    simp [toksF]
  | n + 1, f + 1, g + 1, l, p, hn, hf, hg => by
    unfold toksF
    by_cases hl : l = []
    · rw [if_pos hl, if_pos hl]
    · rw [if_neg hl, if_neg hl]
      by_cases he : (rdTok pat l).err = 0
      · have := restL_lt pat l he
        rw [if_pos he, if_pos he, toksF_enough pat n f g _ _ (by omega) (by omega) (by omega)]
      · rw [if_neg he, if_neg he]
theorem toks_nil (pat : Bool) (p : Nat) : toks pat [] p = some [] := by simp [toks, toksF]
theorem toks_cons (pat : Bool) (l : List UInt8) (p : Nat) (hl : l ≠ []) (he : (rdTok pat l).err = 0) : toks pat l p = (toks pat (restL pat l) (p + stepN pat l)).map (tokAt pat l p :: ·) := by
  have h := restL_lt pat l he
  unfold toks
  rw [toksF_enough pat l.length l.length (l.length + 1) l p (Nat.le_refl _) (Nat.le_refl _) (by omega)]
  rw [toksF, if_neg hl, if_pos he, toksF_enough pat l.length l.length (restL pat l).length _ _ (by omega) (by omega) (Nat.le_refl _)]
theorem toks_err (pat : Bool) (l : List UInt8) (p : Nat) (hl : l ≠ []) (he : (rdTok pat l).err ≠ 0) : toks pat l p = none := by
  unfold toks
  rw [toksF_enough pat l.length l.length (l.length + 1) l p (Nat.le_refl _) (Nat.le_refl _) (by omega)]
  rw [toksF, if_neg hl, if_neg he]

theorem scanW_cons (pat : Bool) (f : Nat) (l : List UInt8) (p : Nat) (acc : List Tok) (hl : l ≠ []) : scanW pat (f + 1) l p acc =
    if (rdTok pat l).err = 0 then if 600 ≤ acc.length then ⟨[], p, 4⟩ else scanW pat f (restL pat l) (p + stepN pat l) (acc ++ [tokAt pat l p]) else ⟨[], p, (rdTok pat l).err⟩ := by
  cases l with
  | nil => exact absurd rfl hl
  | cons c t =>
    rw [scanW]
    · rw [show p + stepN pat (c :: t) = p + (rdTok pat (c :: t)).len + gapN pat (c :: t) from by unfold stepN; omega]
      rfl
    · simp
theorem scanW_nil (pat : Bool) (f : Nat) (p : Nat) (acc : List Tok) : scanW pat f [] p acc = ⟨acc, 0, 0⟩ := by cases f <;> rfl

/-- Few enough tokens without an error: the scan gives them. -/
theorem scanW_ok (pat : Bool) : ∀ (f : Nat) (l : List UInt8) (p : Nat) (acc ts : List Tok), l.length < f → toks pat l p = some ts → acc.length + ts.length ≤ 600 → scanW pat f l p acc = ⟨acc ++ ts, 0, 0⟩
  | 0, l, p, acc, ts, hf, h, hn => absurd hf (by omega)
  | f + 1, l, p, acc, ts, hf, h, hn => by
    by_cases hl : l = []
    · subst hl
      rw [toks_nil] at h
      cases h
      rw [scanW_nil, List.append_nil]
    · by_cases he : (rdTok pat l).err = 0
      · rw [toks_cons pat l p hl he] at h
        obtain ⟨ts', h', rfl⟩ := Option.map_eq_some_iff.1 h
        rw [List.length_cons] at hn
        have hr := restL_lt pat l he
        rw [scanW_cons pat f l p acc hl, if_pos he, if_neg (by omega), scanW_ok pat f _ _ _ ts' (by omega) h' (by rw [List.length_append]; simp; omega)]
        simp
      · rw [toks_err pat l p hl he] at h
        cases h
/-- A scan without an error. -/
theorem scanW_inv (pat : Bool) : ∀ (f : Nat) (l : List UInt8) (p : Nat) (acc : List Tok), l.length < f → (scanW pat f l p acc).err = 0 → acc.length ≤ 600 → ∃ ts, toks pat l p = some ts ∧ acc.length + ts.length ≤ 600 ∧ scanW pat f l p acc = ⟨acc ++ ts, 0, 0⟩
  | 0, l, p, acc, hf, h, hn => absurd hf (by omega)
  | f + 1, l, p, acc, hf, h, hn => by
    by_cases hl : l = []
    · subst hl
      exact ⟨[], toks_nil _ _, by simpa using hn, by rw [scanW_nil, List.append_nil]⟩
    · by_cases he : (rdTok pat l).err = 0
      · have hr := restL_lt pat l he
        rw [scanW_cons pat f l p acc hl, if_pos he] at h ⊢
        by_cases h6 : 600 ≤ acc.length
        · rw [if_pos h6] at h
          exact absurd h (by simp)
        · rw [if_neg h6] at h ⊢
          obtain ⟨ts, h1, h2, h3⟩ := scanW_inv pat f _ _ _ (by omega) h (by rw [List.length_append]; simp; omega)
          rw [List.length_append] at h2
          refine ⟨tokAt pat l p :: ts, by rw [toks_cons pat l p hl he, h1]; rfl, by simp at h2 ⊢; omega, by rw [h3]; simp⟩
      · rw [scanW_cons pat f l p acc hl, if_neg he] at h
        exact absurd h he
/-- A scan with an error: no tokens, and a place inside. -/
theorem scanW_bad (pat : Bool) : ∀ (f : Nat) (l : List UInt8) (p : Nat) (acc : List Tok), l.length < f → (scanW pat f l p acc).err ≠ 0 → (scanW pat f l p acc).toks = [] ∧ (p : Int) ≤ (scanW pat f l p acc).off ∧ (scanW pat f l p acc).off < p + l.length
  | 0, l, p, acc, hf, h => absurd hf (by omega)
  | f + 1, l, p, acc, hf, h => by
    by_cases hl : l = []
    · subst hl
      rw [scanW_nil] at h
      exact absurd rfl h
    · have hp : 0 < l.length := List.length_pos_iff.2 hl
      rw [scanW_cons pat f l p acc hl] at h ⊢
      by_cases he : (rdTok pat l).err = 0
      · rw [if_pos he] at h ⊢
        by_cases h6 : 600 ≤ acc.length
        · rw [if_pos h6]
          exact ⟨rfl, Int.le_refl _, by simp only; omega⟩
        · rw [if_neg h6] at h ⊢
          have hr := restL_lt pat l he
          have hs : stepN pat l ≤ l.length ∨ (restL pat l).length = 0 := by rw [restL_eq, List.length_drop]; omega
          obtain ⟨h1, h2, h3⟩ := scanW_bad pat f _ _ _ (by omega) h
          have hd : (restL pat l).length = l.length - stepN pat l := by rw [restL_eq, List.length_drop]
          exact ⟨h1, by omega, by omega⟩
      · rw [if_neg he]
        exact ⟨rfl, Int.le_refl _, by simp only; omega⟩

/-! ### Blanks -/
theorem skip_take : ∀ (l : List UInt8) (b : Bool), skipGo b (l.take (skipGo b l)) = skipGo b l
  | [], b => by cases b <;> rfl
  | c :: t, true => by
    rw [skipGo_cons, if_pos rfl]
    by_cases h : c.toNat = 10
    · rw [if_pos h, List.take_succ_cons, skipGo_cons, if_pos rfl, if_pos h, skip_take t false]
    · rw [if_neg h, List.take_succ_cons, skipGo_cons, if_pos rfl, if_neg h, skip_take t true]
  | c :: t, false => by
    rw [skipGo_cons, if_neg (by simp)]
    by_cases h : blankI c.toNat = true
    · rw [if_pos h, List.take_succ_cons, skipGo_cons, if_neg (by simp), if_pos h, skip_take t false]
    · rw [if_neg h]
      by_cases h2 : c.toNat = 47 ∧ (t.head?.map (·.toNat)) = some 47
      · rw [if_pos h2, List.take_succ_cons, skipGo_cons, if_neg (by simp), if_neg h]
        have hh : (t.take (skipGo true t)).head? = t.head? := by
          cases t with
          | nil => simp at h2
          | cons d u =>
            have hd : d.toNat ≠ 10 := by have := h2.2; simp at this; omega
            rw [skipGo_cons, if_pos rfl, if_neg hd, List.take_succ_cons]
            rfl
        rw [hh, if_pos h2, skip_take t true]
      · rw [if_neg h2]
        rfl
theorem skip_drop : ∀ (l : List UInt8) (b : Bool), skipGo false (l.drop (skipGo b l)) = 0
  | [], b => by cases b <;> rfl
  | c :: t, true => by
    rw [skipGo_cons, if_pos rfl]
    by_cases h : c.toNat = 10
    · rw [if_pos h, List.drop_succ_cons, skip_drop t false]
    · rw [if_neg h, List.drop_succ_cons, skip_drop t true]
  | c :: t, false => by
    rw [skipGo_cons, if_neg (by simp)]
    by_cases h : blankI c.toNat = true
    · rw [if_pos h, List.drop_succ_cons, skip_drop t false]
    · rw [if_neg h]
      by_cases h2 : c.toNat = 47 ∧ (t.head?.map (·.toNat)) = some 47
      · rw [if_pos h2, List.drop_succ_cons, skip_drop t true]
      · rw [if_neg h2, List.drop_zero, skipGo_cons, if_neg (by simp), if_neg h, if_neg h2]
theorem skipT (c : UInt8) (t : List UInt8) : skipGo true (c :: t) = if c.toNat = 10 then skipGo false t + 1 else skipGo true t + 1 := by rw [skipGo_cons, if_pos rfl]
theorem skipF (c : UInt8) (t : List UInt8) : skipGo false (c :: t) = if blankI c.toNat then skipGo false t + 1 else if c.toNat = 47 ∧ (t.head?.map (·.toNat)) = some 47 then skipGo true t + 1 else 0 := by rw [skipGo_cons, if_neg (by simp)]
/-- A line feed ends every comment: what stands before it is skipped as it would be alone. -/
theorem skip_lf (x : List UInt8) : ∀ (l : List UInt8) (b : Bool), skipGo b (l ++ 10 :: x) = if skipGo b l = l.length then l.length + 1 + skipGo false x else skipGo b l
  | [], true => by
    rw [List.nil_append, skipT, if_pos (by decide)]
    simp [skipGo]; omega
  | [], false => by
    rw [List.nil_append, skipF, if_pos (by decide)]
    simp [skipGo]; omega
  | c :: t, true => by
    rw [List.cons_append, skipT, skipT, List.length_cons]
    by_cases h : c.toNat = 10
    · rw [if_pos h, if_pos h, skip_lf x t false]
      by_cases h3 : skipGo false t = t.length
      · rw [if_pos h3, if_pos (by omega)]; omega
      · rw [if_neg h3, if_neg (by omega)]
    · rw [if_neg h, if_neg h, skip_lf x t true]
      by_cases h3 : skipGo true t = t.length
      · rw [if_pos h3, if_pos (by omega)]; omega
      · rw [if_neg h3, if_neg (by omega)]
  | c :: t, false => by
    rw [List.cons_append, skipF, skipF, List.length_cons]
    by_cases h : blankI c.toNat = true
    · rw [if_pos h, if_pos h, skip_lf x t false]
      by_cases h3 : skipGo false t = t.length
      · rw [if_pos h3, if_pos (by omega)]; omega
      · rw [if_neg h3, if_neg (by omega)]
    · rw [if_neg h, if_neg h]
      by_cases h2 : c.toNat = 47 ∧ (t.head?.map (·.toNat)) = some 47
      · have h2' : c.toNat = 47 ∧ ((t ++ 10 :: x).head?.map (·.toNat)) = some 47 := by
          cases t with
          | nil => simp at h2
          | cons d u => exact h2
        rw [if_pos h2, if_pos h2', skip_lf x t true]
        by_cases h3 : skipGo true t = t.length
        · rw [if_pos h3, if_pos (by omega)]; omega
        · rw [if_neg h3, if_neg (by omega)]
      · have h2' : ¬ (c.toNat = 47 ∧ ((t ++ 10 :: x).head?.map (·.toNat)) = some 47) := by
          cases t with
          | nil => simp
          | cons d u => exact h2
        rw [if_neg h2, if_neg h2', if_neg (by omega)]
end Go.Proofs.Ytlnoadnejefmoaa
set_option linter.unusedVariables false
set_option linter.unusedSimpArgs false
namespace Go.Proofs.Ytlnoadnejefmoaa

/-- What may stand behind a token in place of v: nothing, something with the same first byte, a blank or a line feed. -/
def After (v y : List UInt8) : Prop := y.head? = v.head? ∨ y.head? = none ∨ y.head? = some 32 ∨ y.head? = some 10

/-! ### Runs of bytes -/
theorem tw_append {α : Type} (p : α → Bool) : ∀ (u y : List α), (∀ a ∈ u, p a = true) → (u ++ y).takeWhile p = u ++ y.takeWhile p
  | [], y, _ => rfl
  | a :: u, y, h => by rw [List.cons_append, List.takeWhile_cons, h a (by simp), if_pos rfl, tw_append p u y (fun b hb => h b (by simp [hb])), List.cons_append]
theorem tw_all {α : Type} (p : α → Bool) : ∀ (u v : List α), ((u ++ v).takeWhile p).length = u.length → (∀ a ∈ u, p a = true) ∧ (∀ b, v.head? = some b → p b = false)
  | [], v, h => by
    refine ⟨by simp, fun b hb => ?_⟩
    cases v with
    | nil => simp at hb
    | cons c t =>
      simp at hb
      subst hb
      rw [List.nil_append, List.takeWhile_cons] at h
      cases hp : p c
      · rfl
      · rw [hp] at h; simp at h
  | a :: u, v, h => by
    rw [List.cons_append, List.takeWhile_cons] at h
    cases hp : p a
    · rw [hp] at h; simp at h
    · rw [hp, if_pos rfl] at h
      simp at h
      obtain ⟨h1, h2⟩ := tw_all p u v h
      exact ⟨fun b hb => by rcases List.mem_cons.1 hb with rfl | hb; exact hp; exact h1 b hb, h2⟩
theorem tw_none {α : Type} (p : α → Bool) (y : List α) (h : ∀ b, y.head? = some b → p b = false) : y.takeWhile p = [] := by
  cases y with
  | nil => rfl
  | cons c t => rw [List.takeWhile_cons, h c rfl]; rfl
theorem after_head {v y : List UInt8} (h : After v y) (p : UInt8 → Bool) (h1 : p 32 = false) (h2 : p 10 = false) (hv : ∀ b, v.head? = some b → p b = false) : ∀ b, y.head? = some b → p b = false := by
  intro b hb
  rcases h with h | h | h | h
  · exact hv b (h ▸ hb)
  · rw [h] at hb; cases hb
  · rw [h] at hb; cases hb; exact h1
  · rw [h] at hb; cases hb; exact h2
/-- A run that ends behind u ends there whatever stands behind. -/
theorem run_swap (p : UInt8 → Bool) (h1 : p 32 = false) (h2 : p 10 = false) (u v y : List UInt8) (h : ((u ++ v).takeWhile p).length = u.length) (ha : After v y) : (u ++ y).takeWhile p = u := by
  obtain ⟨hu, hv⟩ := tw_all p u v h
  rw [tw_append p u y hu, tw_none p y (after_head ha p h1 h2 hv), List.append_nil]
theorem run_self (p : UInt8 → Bool) (u v : List UInt8) (h : ((u ++ v).takeWhile p).length = u.length) : (u ++ v).takeWhile p = u := by
  obtain ⟨hu, hv⟩ := tw_all p u v h
  rw [tw_append p u v hu, tw_none p v hv, List.append_nil]
theorem take_wordLen (l : List UInt8) : l.take (wordLen l) = l.takeWhile isWordB := by
  unfold wordLen
  induction l with
  | nil => rfl
  | cons a l ih =>
    rw [List.takeWhile_cons]
    cases h : isWordB a
    · rfl
    · simp [ih]
theorem take_digLen (l : List UInt8) : l.take (digLen l) = l.takeWhile isDigitB := by
  unfold digLen
  induction l with
  | nil => rfl
  | cons a l ih =>
    rw [List.takeWhile_cons]
    cases h : isDigitB a
    · rfl
    · simp [ih]
theorem wordT_len (l : List UInt8) : (wordT l).length = wordLen l := by
  unfold wordT
  rw [List.length_take]
  have := wordLen_le l
  omega

theorem wordR_swap (u v y : List UInt8) (he : (wordR (u ++ v)).err = 0) (hl : (wordR (u ++ v)).len = u.length) (ha : After v y) : wordR (u ++ y) = wordR (u ++ v) := by
  have hlen : (wordT (u ++ v)).length = u.length := by
    unfold wordR at he hl
    split at he
    · rename_i h1; rw [if_pos h1] at hl; exact hl
    · rename_i h1
      rw [if_neg h1] at hl
      split at he
      · simp [RT.bad] at he
      · rename_i h2; rw [if_neg h2] at hl; exact hl
  rw [wordT_len] at hlen
  have e1 : wordT (u ++ v) = u := by unfold wordT; rw [take_wordLen]; exact run_self _ u v hlen
  have e2 : wordT (u ++ y) = u := by unfold wordT; rw [take_wordLen]; exact run_swap _ (by decide) (by decide) u v y hlen ha
  unfold wordR
  rw [e1, e2]
theorem head_append (u x y : List UInt8) (h : 0 < u.length) : (u ++ x).head? = (u ++ y).head? := by
  cases u with
  | nil => simp at h
  | cons c t => rfl
theorem take_len_append (u y : List UInt8) : (u ++ y).take u.length = u := by simp
theorem intR_swap (u v y : List UInt8) (hu : 0 < u.length) (he : (intR (u ++ v)).err = 0) (hl : (intR (u ++ v)).len = u.length) (ha : After v y) : intR (u ++ y) = intR (u ++ v) := by
  have hlen : digLen (u ++ v) = u.length := by
    unfold intR at he hl
    split at he
    · simp [RT.bad] at he
    · rename_i h1
      rw [if_neg h1] at hl
      split at he
      · simp [RT.bad] at he
      · rename_i h2; rw [if_neg h2] at hl; exact hl
  have e1 : (u ++ v).takeWhile isDigitB = u := run_self _ u v hlen
  have e2 : (u ++ y).takeWhile isDigitB = u := run_swap _ (by decide) (by decide) u v y hlen ha
  have e3 : digLen (u ++ y) = u.length := by unfold digLen; rw [e2]
  unfold intR
  rw [e3, hlen, head_append u v y hu, take_len_append u y, take_len_append u v]
/-- A literal is read to its end and no further. -/
theorem litGo_swap (v y : List UInt8) : ∀ (u : List UInt8) (n : Nat) (acc : List UInt8), (litGo (u ++ v) n acc).err = 0 → (litGo (u ++ v) n acc).len = n + u.length → litGo (u ++ y) n acc = litGo (u ++ v) n acc
  | [], n, acc, he, hl => by
    have h := litGo_len v.length ([] ++ v) n acc (by simp) he
    simp only [List.length_nil] at hl
    omega
  | c :: t, n, acc, he, hl => by
    rw [List.cons_append] at he hl ⊢
    rw [List.cons_append]
    by_cases h1 : c.toNat = 34
    · rw [litGo_q h1, litGo_q h1]
    · by_cases h2 : c.toNat < 32 ∨ 126 < c.toNat
      · rw [litGo_bad h1 h2] at he; simp [RT.bad] at he
      · by_cases h3 : c.toNat = 92
        · cases t with
          | nil =>
            rw [List.nil_append] at he hl
            cases v with
            | nil => rw [litGo_end h3] at he; simp [RT.bad] at he
            | cons d w =>
              by_cases h4 : d.toNat = 34 ∨ d.toNat = 92
              · rw [litGo_esc h3 h4] at he hl
                have := litGo_len w.length w (n + 2) _ (Nat.le_refl _) he
                simp at hl
                omega
              · by_cases h5 : d.toNat = 110
                · rw [litGo_escn h3 h5] at he hl
                  have := litGo_len w.length w (n + 2) _ (Nat.le_refl _) he
                  simp at hl
                  omega
                · rw [litGo_escx h3 (by omega) (by omega) h5] at he; simp [RT.bad] at he
          | cons d w =>
            rw [List.cons_append] at he hl ⊢
            rw [List.cons_append]
            by_cases h4 : d.toNat = 34 ∨ d.toNat = 92
            · rw [litGo_esc h3 h4] at he hl ⊢
              rw [litGo_esc h3 h4]
              exact litGo_swap v y w _ _ he (by simp at hl; omega)
            · by_cases h5 : d.toNat = 110
              · rw [litGo_escn h3 h5] at he hl ⊢
                rw [litGo_escn h3 h5]
                exact litGo_swap v y w _ _ he (by simp at hl; omega)
              · rw [litGo_escx h3 (by omega) (by omega) h5] at he; simp [RT.bad] at he
        · rw [litGo_ch h1 (by omega) (by omega) h3] at he hl ⊢
          rw [litGo_ch h1 (by omega) (by omega) h3]
          exact litGo_swap v y t _ _ he (by simp at hl; omega)
theorem litR_swap (u v y : List UInt8) (hu : 0 < u.length) (he : (litR (u ++ v)).err = 0) (hl : (litR (u ++ v)).len = u.length) : litR (u ++ y) = litR (u ++ v) := by
  cases u with
  | nil => simp at hu
  | cons c t =>
    unfold litR at he hl ⊢
    simp only [List.cons_append, List.drop_succ_cons, List.drop_zero] at he hl ⊢
    exact litGo_swap v y t 1 [] he (by simp at hl; omega)
theorem markR_swap (u v y : List UInt8) (hu : 0 < u.length) (he : (markR (u ++ v)).err = 0) (hl : (markR (u ++ v)).len = u.length) (ha : After v y) : markR (u ++ y) = markR (u ++ v) := by
  match u, hu with
  | [c], _ =>
    have key : ∀ x, isMarkL (([c] ++ x).take 2) = true → x ≠ [] → (markR ([c] ++ x)).len = 2 := by
      intro x hx hne
      unfold markR
      rw [if_pos hx]
      cases x with
      | nil => exact absurd rfl hne
      | cons d w => rfl
    have one : ∀ x, (x = [] ∨ isMarkL (([c] ++ x).take 2) = false) → isMarkL [c] = true → markR ([c] ++ x) = ⟨0, 5, [c], 1⟩ := by
      intro x hx hc
      unfold markR
      rcases hx with rfl | hx
      · rw [List.append_nil, show [c].take 2 = [c] from rfl, if_pos hc]; rfl
      · rw [hx, if_neg (by simp), show ([c] ++ x).take 1 = [c] from rfl, if_pos hc]
    have hc : isMarkL [c] = true := by
      cases hv : isMarkL (([c] ++ v).take 2)
      · unfold markR at he
        rw [hv, if_neg (by simp), show ([c] ++ v).take 1 = [c] from rfl] at he
        cases h : isMarkL [c]
        · rw [h] at he; simp [RT.bad] at he
        · rfl
      · cases v with
        | nil => exact hv
        | cons d w => rw [key _ hv (by simp)] at hl; simp at hl
    have hv : v = [] ∨ isMarkL (([c] ++ v).take 2) = false := by
      cases v with
      | nil => exact .inl rfl
      | cons d w =>
        right
        cases hv : isMarkL (([c] ++ d :: w).take 2)
        · rfl
        · rw [key _ hv (by simp)] at hl; simp at hl
    rw [one v hv hc]
    apply one y _ hc
    cases y with
    | nil => exact .inl rfl
    | cons d w =>
      right
      show isMarkL [c, d] = false
      have sep : ∀ d : UInt8, d = 32 ∨ d = 10 → isMarkL [c, d] = false := by
        rintro d (rfl | rfl) <;> simp [isMarkL, markL]
      rcases ha with h | h | h | h
      · rcases hv with rfl | hv
        · simp at h
        · cases v with
          | nil => simp at h
          | cons d' w' => simp at h; subst h; exact hv
      · simp at h
      · simp at h; exact sep d (.inl h)
      · simp at h; exact sep d (.inr h)
  | [c, d], _ => rfl
  | c :: d :: e :: t, _ =>
    have : (markR (c :: d :: e :: t ++ v)).len ≤ 2 := by
      unfold markR
      split
      · simp
      · split <;> simp [RT.bad]
    rw [hl] at this
    simp at this
theorem metaN_append (c d : UInt8) (t x : List UInt8) : metaN (c :: d :: t ++ x) = if d = 36 then 2 else 1 := by
  unfold metaN
  simp
theorem wordLen_none (c : UInt8) (t : List UInt8) (h : isWordB c = false) : wordLen (c :: t) = 0 := by rw [wordLen_cons, h, if_neg (by simp)]
theorem nameL_pos (l : List UInt8) (h : nameL l = true) : 0 < l.length := by
  cases l with
  | nil => simp [nameL] at h
  | cons c t => simp
theorem metaR_swap (u v y : List UInt8) (hu : 0 < u.length) (he : (metaR (u ++ v)).err = 0) (hl : (metaR (u ++ v)).len = u.length) (ha : After v y) : metaR (u ++ y) = metaR (u ++ v) := by
  have hn : nameL (metaT (u ++ v)) = true ∧ metaN (u ++ v) + (metaT (u ++ v)).length = u.length := by
    unfold metaR at he hl
    split at he
    · simp [RT.bad] at he
    · rename_i h1
      rw [if_neg h1] at hl
      split at he
      · simp [RT.bad] at he
      · rename_i h2
        rw [if_neg h2] at hl
        exact ⟨by simpa using h1, hl⟩
  obtain ⟨hn, hs⟩ := hn
  have hp := nameL_pos _ hn
  have hN : 1 ≤ metaN (u ++ v) := by unfold metaN; split <;> omega
  match u, hu with
  | [c], _ => simp only [List.length_cons, List.length_nil] at hs; omega
  | c :: d :: t, _ =>
    have e := metaN_append c d t v
    have e' := metaN_append c d t y
    have eN : metaN (c :: d :: t ++ y) = metaN (c :: d :: t ++ v) := by rw [e, e']
    obtain ⟨N, hNe⟩ : ∃ N, metaN (c :: d :: t ++ v) = N := ⟨_, rfl⟩
    rw [hNe] at eN hs hN
    have hNl : N ≤ (c :: d :: t).length := by omega
    have dv : ∀ x, (c :: d :: t ++ x).drop N = (c :: d :: t).drop N ++ x := fun x => by rw [List.drop_append_of_le_length hNl]
    have tl : (metaT (c :: d :: t ++ v)).length = wordLen ((c :: d :: t).drop N ++ v) := by
      unfold metaT
      rw [hNe, dv, List.length_take]
      have := wordLen_le ((c :: d :: t).drop N ++ v)
      omega
    have wl : wordLen ((c :: d :: t).drop N ++ v) = ((c :: d :: t).drop N).length := by rw [List.length_drop]; omega
    have eT : ∀ x, metaN (c :: d :: t ++ x) = N → metaT (c :: d :: t ++ x) = ((c :: d :: t).drop N ++ x).takeWhile isWordB := by
      intro x hx
      unfold metaT
      rw [hx, dv, take_wordLen]
    have t1 := eT v hNe
    have t2 := eT y eN
    rw [run_self _ _ v wl] at t1
    rw [run_swap _ (by decide) (by decide) _ v y wl ha] at t2
    unfold metaR
    rw [t1, t2, eN, hNe]

/-- THE TOKEN's READING: what follows matters by its first byte alone. -/
theorem rd_swap (pat : Bool) (u v y : List UInt8) (hu : 0 < u.length) (he : (rdTok pat (u ++ v)).err = 0) (hl : (rdTok pat (u ++ v)).len = u.length) (ha : After v y) : rdTok pat (u ++ y) = rdTok pat (u ++ v) := by
  cases hu' : u with
  | nil => rw [hu'] at hu; simp at hu
  | cons c t =>
    have e : ∀ x, rdTok pat (c :: t ++ x) = if isLetterI c.toNat then wordR (c :: t ++ x) else if isDigitI c.toNat then intR (c :: t ++ x) else if c.toNat = 34 then litR (c :: t ++ x) else if c.toNat = 36 ∧ pat = true then metaR (c :: t ++ x) else markR (c :: t ++ x) := fun x => rfl
    rw [hu'] at he hl hu
    rw [e v] at he hl ⊢
    rw [e y]
    by_cases h1 : isLetterI c.toNat = true
    · rw [if_pos h1] at he hl ⊢
      rw [if_pos h1]
      exact wordR_swap _ v y he hl ha
    · rw [if_neg h1] at he hl ⊢
      rw [if_neg h1]
      by_cases h2 : isDigitI c.toNat = true
      · rw [if_pos h2] at he hl ⊢
        rw [if_pos h2]
        exact intR_swap _ v y hu he hl ha
      · rw [if_neg h2] at he hl ⊢
        rw [if_neg h2]
        by_cases h3 : c.toNat = 34
        · rw [if_pos h3] at he hl ⊢
          rw [if_pos h3]
          exact litR_swap _ v y hu he hl
        · rw [if_neg h3] at he hl ⊢
          rw [if_neg h3]
          by_cases h4 : c.toNat = 36 ∧ pat = true
          · rw [if_pos h4] at he hl ⊢
            rw [if_pos h4]
            exact metaR_swap _ v y hu he hl ha
          · rw [if_neg h4] at he hl ⊢
            rw [if_neg h4]
            exact markR_swap _ v y hu he hl ha
end Go.Proofs.Ytlnoadnejefmoaa
set_option linter.unusedVariables false
set_option linter.unusedSimpArgs false
namespace Go.Proofs.Ytlnoadnejefmoaa

/-- The tokens of a text that begins at place p; blanks may stand first. -/
def tokS (pat : Bool) (l : List UInt8) (p : Nat) : Option (List Tok) := toks pat (l.drop (skipGo false l)) (p + skipGo false l)
theorem scanR_inv (pat : Bool) (l : List UInt8) (L : List Tok) (off err : Int) (h : scanR pat l = ⟨L, off, err⟩) (he : err = 0) : tokS pat l 0 = some L ∧ L.length ≤ 600 ∧ off = 0 := by
  subst he
  unfold scanR at h
  have hl : (l.drop (skipGo false l)).length < l.length + 1 := by rw [List.length_drop]; omega
  obtain ⟨ts, h1, h2, h3⟩ := scanW_inv pat (l.length + 1) _ (skipGo false l) [] hl (by rw [h]) (by simp)
  rw [h3] at h
  injection h with h4 h5 h6
  simp at h4 h2
  subst h4
  exact ⟨by unfold tokS; rw [Nat.zero_add]; exact h1, h2, h5.symm⟩
theorem scanR_ok (pat : Bool) (l : List UInt8) (L : List Tok) (h : tokS pat l 0 = some L) (hn : L.length ≤ 600) : scanR pat l = ⟨L, 0, 0⟩ := by
  unfold scanR
  unfold tokS at h
  rw [Nat.zero_add] at h
  have := scanW_ok pat (l.length + 1) _ _ [] L (by rw [List.length_drop]; omega) h (by simpa using hn)
  simpa using this
theorem scanR_bad (pat : Bool) (l : List UInt8) (L : List Tok) (off err : Int) (h : scanR pat l = ⟨L, off, err⟩) (he : err ≠ 0) : L = [] ∧ 0 ≤ off ∧ off < l.length := by
  unfold scanR at h
  have hs := skipGo_le l false
  have hb := scanW_bad pat (l.length + 1) (l.drop (skipGo false l)) (skipGo false l) [] (by rw [List.length_drop]; omega) (by rw [h]; exact he)
  rw [h, List.length_drop] at hb
  obtain ⟨h1, h2, h3⟩ := hb
  simp only at h1 h2 h3
  exact ⟨h1, by omega, by omega⟩
theorem scanR_blank (pat : Bool) (l : List UInt8) (h : skipGo false l = l.length) : scanR pat l = ⟨[], 0, 0⟩ := by
  apply scanR_ok pat l [] _ (by simp)
  unfold tokS
  rw [h, List.drop_eq_nil_of_le (Nat.le_refl _), toks_nil]
theorem skip_take0 (l : List UInt8) (m : Nat) (h : skipGo false l = 0) : skipGo false (l.take m) = 0 := by
  cases l with
  | nil => simp [skipGo]
  | cons c t =>
    cases m with
    | zero => rfl
    | succ m =>
      rw [skipF] at h
      rw [List.take_succ_cons, skipF]
      by_cases h1 : blankI c.toNat = true
      · rw [if_pos h1] at h; omega
      · rw [if_neg h1] at h ⊢
        by_cases h2 : c.toNat = 47 ∧ (t.head?.map (·.toNat)) = some 47
        · rw [if_pos h2] at h; omega
        · rw [if_neg]
          rintro ⟨h3, h4⟩
          apply h2
          refine ⟨h3, ?_⟩
          cases t with
          | nil => simp at h4
          | cons d u =>
            cases m with
            | zero => simp at h4
            | succ m => simpa using h4
theorem tok_parts (pat : Bool) (l : List UInt8) : l.take (rdTok pat l).len ++ l.drop (rdTok pat l).len = l := List.take_append_drop _ _
/-- A token by itself. -/
theorem rd_own (pat : Bool) (l : List UInt8) (he : (rdTok pat l).err = 0) : rdTok pat (l.take (rdTok pat l).len) = rdTok pat l := by
  have hl := rdTok_len pat l he
  have hu : (l.take (rdTok pat l).len).length = (rdTok pat l).len := by rw [List.length_take]; omega
  have h := rd_swap pat (l.take (rdTok pat l).len) (l.drop (rdTok pat l).len) [] (by omega) (by rw [tok_parts]; exact he) (by rw [tok_parts, hu]) (.inr (.inl rfl))
  rw [tok_parts, List.append_nil] at h
  exact h
/-- A token in front of a line feed. -/
theorem rd_lf (pat : Bool) (l x : List UInt8) (he : (rdTok pat l).err = 0) : rdTok pat (l ++ 10 :: x) = rdTok pat l := by
  have hl := rdTok_len pat l he
  have hu : (l.take (rdTok pat l).len).length = (rdTok pat l).len := by rw [List.length_take]; omega
  have h := rd_swap pat (l.take (rdTok pat l).len) (l.drop (rdTok pat l).len) (l.drop (rdTok pat l).len ++ 10 :: x) (by omega) (by rw [tok_parts]; exact he) (by rw [tok_parts, hu]) (by
    cases hv : l.drop (rdTok pat l).len with
    | nil => exact .inr (.inr (.inr rfl))
    | cons c t => exact .inl rfl)
  rw [← List.append_assoc, tok_parts] at h
  exact h

theorem tokS_cons (pat : Bool) (l : List UInt8) (p : Nat) (t : Tok) (ts : List Tok) (h : tokS pat l p = some (t :: ts)) :
    (rdTok pat (l.drop (skipGo false l))).err = 0 ∧ t = tokAt pat (l.drop (skipGo false l)) (p + skipGo false l) ∧
    tokS pat ((l.drop (skipGo false l)).drop (rdTok pat (l.drop (skipGo false l))).len) (p + skipGo false l + (rdTok pat (l.drop (skipGo false l))).len) = some ts := by
  unfold tokS at h
  by_cases hl : l.drop (skipGo false l) = []
  · rw [hl, toks_nil] at h; simp at h
  · by_cases he : (rdTok pat (l.drop (skipGo false l))).err = 0
    · rw [toks_cons pat _ _ hl he] at h
      obtain ⟨ts', h1, h2⟩ := Option.map_eq_some_iff.1 h
      injection h2 with h3 h4
      subst h4
      refine ⟨he, h3.symm, ?_⟩
      unfold tokS
      unfold restL stepN gapN at h1
      rw [← Nat.add_assoc] at h1
      exact h1
    · rw [toks_err pat _ _ hl he] at h; cases h
theorem tokS_nil (pat : Bool) (l : List UInt8) (p : Nat) (h : tokS pat l p = some []) : skipGo false l = l.length := by
  unfold tokS at h
  have hs := skipGo_le l false
  by_cases hl : l.drop (skipGo false l) = []
  · have := congrArg List.length hl
    rw [List.length_drop] at this
    simp at this
    omega
  · by_cases he : (rdTok pat (l.drop (skipGo false l))).err = 0
    · rw [toks_cons pat _ _ hl he] at h
      obtain ⟨ts', h1, h2⟩ := Option.map_eq_some_iff.1 h
      cases h2
    · rw [toks_err pat _ _ hl he] at h; cases h

/-- THE PLACES: what a scan tells of its first token. -/
theorem place_step (pat : Bool) (l : List UInt8) (p : Nat) (t : Tok) (ts : List Tok) (h : tokS pat l p = some (t :: ts)) :
    ∃ k m : Nat, t.at_ = (p + k : Nat) ∧ t.end_ = (p + k + m : Nat) ∧ 0 < m ∧ k + m ≤ l.length ∧ tokS pat (l.drop (k + m)) (p + k + m) = some ts ∧
      scanR pat (l.take k) = ⟨[], 0, 0⟩ ∧ scanR pat ((l.drop k).take m) = ⟨[⟨t.kind, t.text, 0, m⟩], 0, 0⟩ := by
  obtain ⟨he, rfl, h2⟩ := tokS_cons pat l p t ts h
  have hs := skipGo_le l false
  have hl := rdTok_len pat _ he
  rw [List.length_drop] at hl
  have hd := skip_drop l false
  have ht := skip_take l false
  obtain ⟨k, hk⟩ : ∃ k, skipGo false l = k := ⟨_, rfl⟩
  rw [hk] at he hs hl hd ht h2 ⊢
  have ho := rd_own pat _ he
  obtain ⟨m, hm⟩ : ∃ m, (rdTok pat (l.drop k)).len = m := ⟨_, rfl⟩
  have hmp : 0 < m := by omega
  have hu : ((l.drop k).take m).length = m := by rw [List.length_take, List.length_drop]; omega
  rw [hm] at ho h2
  refine ⟨k, m, rfl, by simp only [tokAt]; rw [hm], hmp, by omega, by rw [← List.drop_drop]; exact h2, ?_, ?_⟩
  · apply scanR_blank
    rw [ht, List.length_take]
    omega
  · apply scanR_ok
    · unfold tokS
      rw [skip_take0 _ m hd, List.drop_zero, toks_cons pat _ _ (by intro e; rw [e] at hu; simp at hu; omega) (by rw [ho]; exact he)]
      have hr : restL pat ((l.drop k).take m) = [] := by
        unfold restL
        rw [ho, hm, show ((l.drop k).take m).drop m = [] from List.drop_eq_nil_of_le (by rw [hu]; exact Nat.le_refl _), List.drop_nil]
      rw [hr, toks_nil]
      simp only [Option.map_some, tokAt, ho, hm]
      simp
    · simp
theorem place_end (pat : Bool) (l : List UInt8) (p : Nat) (h : tokS pat l p = some []) : scanR pat l = ⟨[], 0, 0⟩ := scanR_blank pat l (tokS_nil pat l p h)

/-! ### Two texts with a line feed between them -/
theorem tokS_lf (pat : Bool) (x : List UInt8) : ∀ (ts : List Tok) (l : List UInt8) (p : Nat), tokS pat l p = some ts → tokS pat (l ++ 10 :: x) p = (tokS pat x (p + l.length + 1)).map (ts ++ ·)
  | [], l, p, h => by
    have hk := tokS_nil pat l p h
    unfold tokS
    rw [skip_lf x l false, if_pos hk]
    rw [show (l ++ 10 :: x).drop (l.length + 1 + skipGo false x) = x.drop (skipGo false x) from by
      rw [← List.drop_drop, ← List.drop_drop, List.drop_left]; rfl]
    rw [show p + (l.length + 1 + skipGo false x) = p + l.length + 1 + skipGo false x from by omega]
    simp
  | t :: ts, l, p, h => by
    obtain ⟨he, rfl, h2⟩ := tokS_cons pat l p t ts h
    have hs := skipGo_le l false
    have hl := rdTok_len pat _ he
    rw [List.length_drop] at hl
    have ih := tokS_lf pat x ts _ _ h2
    have hd : (l ++ 10 :: x).drop (skipGo false l) = l.drop (skipGo false l) ++ 10 :: x := List.drop_append_of_le_length hs
    have hr := rd_lf pat (l.drop (skipGo false l)) x he
    have e0 : skipGo false (l ++ 10 :: x) = skipGo false l := by rw [skip_lf x l false, if_neg (by omega)]
    have hne : l.drop (skipGo false l) ++ 10 :: x ≠ [] := by simp
    have dd : (l.drop (skipGo false l) ++ 10 :: x).drop (rdTok pat (l.drop (skipGo false l))).len = (l.drop (skipGo false l)).drop (rdTok pat (l.drop (skipGo false l))).len ++ 10 :: x := List.drop_append_of_le_length (by rw [List.length_drop]; omega)
    unfold tokS
    rw [e0, hd, toks_cons pat _ _ hne (by rw [hr]; exact he)]
    unfold restL stepN gapN
    rw [hr, dd, ← Nat.add_assoc]
    unfold tokS at ih
    rw [ih, Option.map_map]
    have e1 : ((l.drop (skipGo false l)).drop (rdTok pat (l.drop (skipGo false l))).len).length + (skipGo false l + (rdTok pat (l.drop (skipGo false l))).len) = l.length := by
      rw [List.length_drop, List.length_drop]; omega
    rw [show p + skipGo false l + (rdTok pat (l.drop (skipGo false l))).len + ((l.drop (skipGo false l)).drop (rdTok pat (l.drop (skipGo false l))).len).length + 1 = p + l.length + 1 from by omega]
    have e2 : tokAt pat (l.drop (skipGo false l) ++ 10 :: x) (p + skipGo false l) = tokAt pat (l.drop (skipGo false l)) (p + skipGo false l) := by unfold tokAt; rw [hr]
    rw [e2]
    congr 1

def Tok.shift (d : Nat) (t : Tok) : Tok := ⟨t.kind, t.text, t.at_ + d, t.end_ + d⟩
theorem toks_shift (pat : Bool) (d : Nat) : ∀ (n : Nat) (l : List UInt8) (p : Nat), l.length ≤ n → toks pat l (p + d) = (toks pat l p).map (List.map (Tok.shift d))
  | 0, l, p, hn => by
    obtain rfl := List.eq_nil_of_length_eq_zero (Nat.le_zero.1 hn)
    rw [toks_nil, toks_nil]; rfl
  | n + 1, l, p, hn => by
    by_cases hl : l = []
    · subst hl; rw [toks_nil, toks_nil]; rfl
    · by_cases he : (rdTok pat l).err = 0
      · have hr := restL_lt pat l he
        rw [toks_cons pat l _ hl he, toks_cons pat l p hl he, Option.map_map, show p + d + stepN pat l = p + stepN pat l + d from by omega, toks_shift pat d n _ _ (by omega), Option.map_map]
        congr 1
        funext ts
        simp only [Function.comp, List.map_cons]
        congr 1
        simp only [tokAt, Tok.shift]
        congr 1 <;> omega
      · rw [toks_err pat l _ hl he, toks_err pat l p hl he]; rfl
theorem tokS_shift (pat : Bool) (d : Nat) (l : List UInt8) (p : Nat) : tokS pat l (p + d) = (tokS pat l p).map (List.map (Tok.shift d)) := by
  unfold tokS
  rw [show p + d + skipGo false l = p + skipGo false l + d from by omega]
  exact toks_shift pat d _ _ _ (Nat.le_refl _)
/-- THE PIECES. -/
theorem pieces (pat : Bool) (l x : List UInt8) (a b : List Tok) (ha : scanR pat l = ⟨a, 0, 0⟩) (hb : scanR pat x = ⟨b, 0, 0⟩) (hn : a.length + b.length ≤ 600) :
    scanR pat (l ++ 10 :: x) = ⟨a ++ b.map (Tok.shift (l.length + 1)), 0, 0⟩ := by
  obtain ⟨h1, _, _⟩ := scanR_inv pat l a 0 0 ha rfl
  obtain ⟨h2, _, _⟩ := scanR_inv pat x b 0 0 hb rfl
  apply scanR_ok
  · rw [tokS_lf pat x a l 0 h1, show 0 + l.length + 1 = 0 + (l.length + 1) from by omega, tokS_shift, h2]
    rfl
  · simpa using hn
end Go.Proofs.Ytlnoadnejefmoaa
set_option linter.unusedVariables false
set_option linter.unusedSimpArgs false
namespace Go.Proofs.Ytlnoadnejefmoaa

theorem skip_first (c : UInt8) (t : List UInt8) (hb : blankI c.toNat = false) (h : c.toNat ≠ 47) : skipGo false (c :: t) = 0 := by
  rw [skipF, hb, if_neg (by simp), if_neg (fun e => h e.1)]
theorem letter_first {c : UInt8} (h : isLetterI c.toNat = true) : blankI c.toNat = false ∧ c.toNat ≠ 47 := by
  unfold isLetterI at h
  unfold blankI
  constructor
  · rw [Bool.eq_false_iff]; intro h2; simp at h h2; omega
  · intro h2; simp at h; omega
theorem digit_first {c : UInt8} (h : isDigitI c.toNat = true) : blankI c.toNat = false ∧ c.toNat ≠ 47 ∧ isLetterI c.toNat = false := by
  unfold isDigitI at h
  unfold blankI isLetterI
  refine ⟨?_, ?_, ?_⟩
  · rw [Bool.eq_false_iff]; intro h2; simp at h h2; omega
  · intro h2; simp at h; omega
  · rw [Bool.eq_false_iff]; intro h2; simp at h h2; omega
theorem rd_letter (pat : Bool) (c : UInt8) (t : List UInt8) (h : isLetterI c.toNat = true) : rdTok pat (c :: t) = wordR (c :: t) := by
  unfold rdTok; simp only; rw [if_pos h]
theorem rd_digit (pat : Bool) (c : UInt8) (t : List UInt8) (h : isDigitI c.toNat = true) : rdTok pat (c :: t) = intR (c :: t) := by
  unfold rdTok; simp only; rw [(digit_first h).2.2, if_neg (by simp), if_pos h]
theorem rd_quote (pat : Bool) (t : List UInt8) : rdTok pat (34 :: t) = litR (34 :: t) := by
  unfold rdTok; simp only; rw [if_neg (by decide), if_neg (by decide), if_pos (by decide)]
theorem rd_meta (t : List UInt8) : rdTok true (36 :: t) = metaR (36 :: t) := by
  unfold rdTok; simp only; rw [if_neg (by decide), if_neg (by decide), if_neg (by decide), if_pos (by decide)]
theorem rd_dollar (t : List UInt8) : rdTok false (36 :: t) = .bad 11 := by
  unfold rdTok; simp only; rw [if_neg (by decide), if_neg (by decide), if_neg (by decide), if_neg (by simp)]
  unfold markR
  have h1 : isMarkL ((36 :: t).take 2) = false := by
    cases t with
    | nil => decide
    | cons d u =>
      show isMarkL [36, d] = false
      simp [isMarkL, markL]
  have h2 : isMarkL ((36 :: t).take 1) = false := by show isMarkL [36] = false; decide
  rw [h1, h2]; rfl

/-- The inside of a literal is read back. -/
theorem esc_back (y : List UInt8) : ∀ (l e : List UInt8) (n : Nat) (acc : List UInt8), escO l = some e → litGo (e ++ y) n acc = litGo y (n + e.length) (acc ++ l)
  | [], e, n, acc, h => by
    cases h
    simp
  | c :: t, e, n, acc, h => by
    by_cases h1 : c.toNat = 34 ∨ c.toNat = 92
    · rw [escO_esc c t h1] at h
      obtain ⟨e', h', rfl⟩ := Option.map_eq_some_iff.1 h
      rw [List.cons_append, List.cons_append, litGo_esc (by decide) h1, esc_back y t e' _ _ h', List.append_assoc, List.length_cons, List.length_cons, show n + 2 + e'.length = n + (e'.length + 1 + 1) from by omega]
      rfl
    · by_cases h2 : c.toNat = 10
      · rw [escO_n c t h2] at h
        obtain ⟨e', h', rfl⟩ := Option.map_eq_some_iff.1 h
        obtain rfl : c = 10 := UInt8.toNat_inj.1 h2
        rw [List.cons_append, List.cons_append, litGo_escn (by decide) (by decide), esc_back y t e' _ _ h', List.append_assoc, List.length_cons, List.length_cons, show n + 2 + e'.length = n + (e'.length + 1 + 1) from by omega]
        rfl
      · by_cases h3 : c.toNat < 32 ∨ 126 < c.toNat
        · rw [escO_no c t h2 h3] at h; cases h
        · rw [escO_ch c t (by omega) (by omega) (by omega) (by omega)] at h
          obtain ⟨e', h', rfl⟩ := Option.map_eq_some_iff.1 h
          rw [List.cons_append, litGo_ch (by omega) (by omega) (by omega) (by omega), esc_back y t e' _ _ h', List.append_assoc, List.length_cons, show n + 1 + e'.length = n + (e'.length + 1) from by omega]
          rfl

theorem nameL_parts (l : List UInt8) (h : nameL l = true) : ∃ c t, l = c :: t ∧ isLetterI c.toNat = true ∧ wordLen l = l.length ∧ isKwL l = false := by
  cases l with
  | nil => simp [nameL] at h
  | cons c t =>
    unfold nameL at h
    simp only [Bool.and_eq_true, beq_iff_eq, Bool.not_eq_true'] at h
    exact ⟨c, t, rfl, h.1.1, h.1.2, h.2⟩
theorem shortL_parts (l : List UInt8) (h : shortL l = true) : nameL l = true ∧ l.length ≤ 24 := by
  unfold shortL at h
  rw [Bool.and_eq_true, decide_eq_true_eq] at h
  exact h
theorem wordT_self (l : List UInt8) (h : wordLen l = l.length) : wordT l = l := by unfold wordT; rw [h, List.take_length]
theorem kw_rd : ∀ m ∈ kwL, ∀ pat, rdTok pat m = ⟨0, 2, m, m.length⟩ := by decide +kernel
theorem mark_rd : ∀ m ∈ markL, ∀ pat, rdTok pat m = ⟨0, 5, m, m.length⟩ := by decide +kernel
theorem kw_first : ∀ m ∈ kwL, (match m with | [] => false | c :: _ => isLetterI c.toNat) = true := by decide +kernel
theorem mark_first : ∀ m ∈ markL, m = [47] ∨ (match m with | [] => false | c :: _ => !blankI c.toNat && decide (c.toNat ≠ 47)) = true := by decide +kernel
theorem isKwL_mem {l : List UInt8} (h : isKwL l = true) : l ∈ kwL := by
  unfold isKwL at h
  rw [List.any_eq_true] at h
  obtain ⟨x, hx, he⟩ := h
  rw [beq_iff_eq.1 he]
  exact hx
theorem isMarkL_mem {l : List UInt8} (h : isMarkL l = true) : l ∈ markL := by
  unfold isMarkL at h
  rw [List.any_eq_true] at h
  obtain ⟨x, hx, he⟩ := h
  rw [beq_iff_eq.1 he]
  exact hx

/-- What may stand behind a printed token. -/
def Behind (y : List UInt8) : Prop := y.head? = none ∨ y.head? = some 32
/-- A printed token is read as it was; no blank and no comment begins there. -/
def Reads (pat : Bool) (k : Int) (l o : List UInt8) : Prop := rdTok pat o = ⟨0, k, l, o.length⟩ ∧ 0 < o.length ∧ ∀ y, Behind y → skipGo false (o ++ y) = 0
theorem reads_first (pat : Bool) (k : Int) (l : List UInt8) (c : UInt8) (t : List UInt8) (h : rdTok pat (c :: t) = ⟨0, k, l, (c :: t).length⟩) (hb : blankI c.toNat = false) (h47 : c.toNat ≠ 47) : Reads pat k l (c :: t) :=
  ⟨h, by simp, fun y _ => by rw [List.cons_append]; exact skip_first c _ hb h47⟩
theorem rd_out (pat : Bool) (k : Int) (l o : List UInt8) (h : textO k l = some o) (hp : k = 6 ∨ k = 7 → pat = true) : Reads pat k l o := by
  unfold textO at h
  split at h
  · rename_i hk
    subst hk
    split at h
    · rename_i hs
      cases h
      obtain ⟨hn, h24⟩ := shortL_parts l hs
      obtain ⟨c, t, rfl, hl, hw, hkw⟩ := nameL_parts l hn
      apply reads_first pat 1 _ c t _ (letter_first hl).1 (letter_first hl).2
      rw [rd_letter pat c t hl]
      unfold wordR
      rw [wordT_self _ hw, hkw, if_neg (by simp), if_neg (by omega)]
    · cases h
  split at h
  · rename_i hk
    subst hk
    split at h
    · rename_i hs
      cases h
      have hm := isKwL_mem hs
      have hf := kw_first l hm
      cases l with
      | nil => cases hf
      | cons c t => exact reads_first pat 2 _ c t (kw_rd _ hm pat) (letter_first hf).1 (letter_first hf).2
    · cases h
  split at h
  · rename_i hk
    subst hk
    split at h
    · rename_i hs
      cases h
      cases l with
      | nil => simp [intOk] at hs
      | cons c t =>
        unfold intOk at hs
        simp only [Bool.and_eq_true, decide_eq_true_eq] at hs
        obtain ⟨⟨hd, he⟩, ht⟩ := hs
        apply reads_first pat 3 _ c t _ (digit_first hd).1 (digit_first hd).2.1
        rw [rd_digit pat c t hd]
        unfold intR at he ht ⊢
        split at he
        · simp [RT.bad] at he
        · rename_i h1
          rw [if_neg h1] at ht ⊢
          split at he
          · simp [RT.bad] at he
          · rename_i h2
            rw [if_neg h2] at ht ⊢
            simp only at ht
            have := congrArg List.length ht
            rw [List.length_take] at this
            have h3 := digLen_le (c :: t)
            rw [ht, show digLen (c :: t) = (c :: t).length from by omega]
    · cases h
  split at h
  · rename_i hk
    subst hk
    unfold quoteO at h
    split at h
    · cases h
    · rename_i h60
      obtain ⟨e, he, rfl⟩ := Option.map_eq_some_iff.1 h
      apply reads_first pat 4 l 34 (e ++ [34]) _ (by decide) (by decide)
      rw [rd_quote]
      unfold litR
      rw [List.drop_succ_cons, List.drop_zero, esc_back [34] l e 1 [] he, litGo_q (by decide), List.nil_append, if_neg (by omega)]
      simp
      omega
  split at h
  · rename_i hk
    subst hk
    split at h
    · rename_i hs
      cases h
      have hm := isMarkL_mem hs
      rcases mark_first l hm with rfl | hf
      · refine ⟨mark_rd _ hm pat, by simp, fun y hy => ?_⟩
        rw [List.cons_append, List.nil_append, skipF, if_neg (by decide), if_neg]
        rintro ⟨_, h2⟩
        rcases hy with h3 | h3 <;> rw [h3] at h2 <;> simp at h2
      · cases l with
        | nil => cases hf
        | cons c t =>
          simp only [Bool.and_eq_true, Bool.not_eq_true', decide_eq_true_eq] at hf
          exact reads_first pat 5 _ c t (mark_rd _ hm pat) hf.1 hf.2
    · cases h
  split at h
  · rename_i hk
    subst hk
    obtain rfl := hp (.inl rfl)
    split at h
    · rename_i hs
      cases h
      obtain ⟨hn, h24⟩ := shortL_parts l hs
      apply reads_first true 6 l 36 l _ (by decide) (by decide)
      rw [rd_meta]
      obtain ⟨c, t, rfl, hl, hw, hkw⟩ := nameL_parts l hn
      have hN : metaN (36 :: c :: t) = 1 := by
        unfold metaN
        rw [if_neg]
        intro e
        simp at e
        subst e
        exact absurd hl (by decide)
      have hT : metaT (36 :: c :: t) = c :: t := by
        unfold metaT
        rw [hN]
        exact wordT_self _ hw
      unfold metaR
      rw [hT, hN, hn, if_neg (by simp), if_neg (by omega)]
      simp
      omega
    · cases h
  split at h
  · rename_i hk
    subst hk
    obtain rfl := hp (.inr rfl)
    split at h
    · rename_i hs
      cases h
      obtain ⟨hn, h24⟩ := shortL_parts l hs
      apply reads_first true 7 l 36 (36 :: l) _ (by decide) (by decide)
      rw [rd_meta]
      obtain ⟨c, t, rfl, hl, hw, hkw⟩ := nameL_parts l hn
      have hN : metaN (36 :: 36 :: c :: t) = 2 := by
        unfold metaN
        rw [if_pos (by simp)]
      have hT : metaT (36 :: 36 :: c :: t) = c :: t := by
        unfold metaT
        rw [hN]
        exact wordT_self _ hw
      unfold metaR
      rw [hT, hN, hn, if_neg (by simp), if_neg (by omega)]
      simp
      omega
    · cases h
  · cases h
end Go.Proofs.Ytlnoadnejefmoaa
set_option linter.unusedVariables false
set_option linter.unusedSimpArgs false
namespace Go.Proofs.Ytlnoadnejefmoaa

theorem tokS_out (pat : Bool) (k : Int) (l o y : List UInt8) (p : Nat) (R : Reads pat k l o) (hy : Behind y) : tokS pat (o ++ y) p = (tokS pat y (p + o.length)).map (⟨k, tx l, p, (p + o.length : Nat)⟩ :: ·) := by
  obtain ⟨h1, h2, h3⟩ := R
  have hr : rdTok pat (o ++ y) = rdTok pat o := by
    have h := rd_swap pat o [] y h2 (by rw [List.append_nil, h1]) (by rw [List.append_nil, h1]) (by rcases hy with h | h; exact .inr (.inl h); exact .inr (.inr (.inl h)))
    rw [List.append_nil] at h
    exact h
  unfold tokS
  rw [h3 y hy, List.drop_zero, Nat.add_zero, toks_cons pat _ _ (by intro e; have := congrArg List.length e; rw [List.length_append, List.length_nil] at this; omega) (by rw [hr, h1])]
  have e1 : restL pat (o ++ y) = y.drop (skipGo false y) := by unfold restL gapN; rw [hr, h1]; simp
  have e2 : stepN pat (o ++ y) = o.length + skipGo false y := by unfold stepN gapN; rw [hr, h1]; simp
  have e3 : tokAt pat (o ++ y) p = ⟨k, tx l, p, (p + o.length : Nat)⟩ := by unfold tokAt; rw [hr, h1]
  rw [e1, e2, e3, Nat.add_assoc]
theorem tokS_blank (pat : Bool) (J : List UInt8) (p : Nat) : tokS pat (32 :: J) p = tokS pat J (p + 1) := by
  unfold tokS
  rw [skipF, if_pos (by decide), List.drop_succ_cons, show p + (skipGo false J + 1) = p + 1 + skipGo false J from by omega]
def tailL : List (List UInt8) → List UInt8
  | [] => []
  | a :: t => 32 :: joinL (a :: t)
theorem joinL_cons (o : List UInt8) (os : List (List UInt8)) : joinL (o :: os) = o ++ tailL os := by
  cases os with
  | nil => simp [joinL, tailL]
  | cons a t => rfl
theorem tailL_behind (os : List (List UInt8)) : Behind (tailL os) := by
  cases os with
  | nil => exact .inl rfl
  | cons a t => exact .inr rfl
theorem outs_parts (x : Tok) (t : List Tok) (os : List (List UInt8)) (h : outs (x :: t) = some os) : ∃ o os', os = o :: os' ∧ x.out = some o ∧ outs t = some os' := by
  rw [outs] at h
  split at h
  · rename_i a l h1 h2
    cases h
    exact ⟨a, l, rfl, h1, h2⟩
  · cases h

/-- THE ROUND TRIP. -/
theorem back (pat : Bool) : ∀ (xs : List Tok) (os : List (List UInt8)) (p : Nat), outs xs = some os → (∀ x ∈ xs, x.kind = 6 ∨ x.kind = 7 → pat = true) →
    ∃ ts, tokS pat (joinL os) p = some ts ∧ ts.map (fun t => (t.kind, t.text)) = xs.map (fun t => (t.kind, t.text))
  | [], os, p, h, hp => by
    cases h
    exact ⟨[], by simp [joinL, tokS, skipGo, toks_nil], rfl⟩
  | x :: t, os, p, h, hp => by
    obtain ⟨o, os', rfl, h1, h2⟩ := outs_parts x t os h
    have R := rd_out pat x.kind x.text.data.toList o h1 (hp x (by simp))
    rw [joinL_cons, tokS_out pat _ _ o (tailL os') p R (tailL_behind os')]
    cases t with
    | nil =>
      rw [outs] at h2
      cases h2
      refine ⟨[⟨x.kind, tx x.text.data.toList, p, (p + o.length : Nat)⟩], by simp [tailL, tokS, skipGo, toks_nil], ?_⟩
      rfl
    | cons x2 t2 =>
      obtain ⟨ts, h3, h4⟩ := back pat (x2 :: t2) os' (p + o.length + 1) h2 (fun y hy => hp y (by simp [List.mem_cons.1 hy]))
      obtain ⟨o2, os2, rfl, _, _⟩ := outs_parts x2 t2 os' h2
      refine ⟨⟨x.kind, tx x.text.data.toList, p, (p + o.length : Nat)⟩ :: ts, ?_, ?_⟩
      · rw [show tailL (o2 :: os2) = 32 :: joinL (o2 :: os2) from rfl, tokS_blank, h3]
        rfl
      · rw [List.map_cons, List.map_cons, h4]
        rfl
theorem back_scan (pat : Bool) (xs : List Tok) (os : List (List UInt8)) (h : outs xs = some os) (hp : ∀ x ∈ xs, x.kind = 6 ∨ x.kind = 7 → pat = true) (hn : xs.length ≤ 600) :
    ∃ ts, scanR pat (joinL os) = ⟨ts, 0, 0⟩ ∧ ts.map (fun t => (t.kind, t.text)) = xs.map (fun t => (t.kind, t.text)) := by
  obtain ⟨ts, h1, h2⟩ := back pat xs os 0 h hp
  have hl := congrArg List.length h2
  simp at hl
  exact ⟨ts, scanR_ok pat _ ts h1 (by omega), h2⟩

theorem out_first (k : Int) (l o : List UInt8) (h : textO k l = some o) : 0 < o.length ∧ ∀ y, Behind y → skipGo false (o ++ y) = 0 := (rd_out true k l o h (fun _ => rfl)).2
theorem out_meta (x : Tok) (o : List UInt8) (h : x.out = some o) (hk : x.kind = 6 ∨ x.kind = 7) : ∃ t, o = 36 :: t := by
  unfold Tok.out textO at h
  rcases hk with hk | hk
  · rw [hk] at h
    simp only [Int.reduceEq, if_false, if_true] at h
    split at h
    · cases h; exact ⟨_, rfl⟩
    · cases h
  · rw [hk] at h
    simp only [Int.reduceEq, if_false, if_true] at h
    split at h
    · cases h; exact ⟨_, rfl⟩
    · cases h
theorem join_skip (xs : List Tok) (os : List (List UInt8)) (h : outs xs = some os) : skipGo false (joinL os) = 0 := by
  cases xs with
  | nil => cases h; rfl
  | cons x t =>
    obtain ⟨o, os', rfl, h1, h2⟩ := outs_parts x t os h
    rw [joinL_cons]
    exact (out_first _ _ o h1).2 _ (tailL_behind os')
/-- With a metavariable Scan fails. -/
theorem scanW_meta : ∀ (xs : List Tok) (os : List (List UInt8)) (f p : Nat) (acc : List Tok), outs xs = some os → (∃ x ∈ xs, x.kind = 6 ∨ x.kind = 7) → acc.length + xs.length ≤ 600 → (joinL os).length < f → (scanW false f (joinL os) p acc).err = 11
  | [], os, f, p, acc, h, hm, hn, hf => by obtain ⟨x, hx, _⟩ := hm; simp at hx
  | x :: t, os, 0, p, acc, h, hm, hn, hf => absurd hf (by omega)
  | x :: t, os, f + 1, p, acc, h, hm, hn, hf => by
    obtain ⟨o, os', rfl, h1, h2⟩ := outs_parts x t os h
    rw [joinL_cons] at hf ⊢
    obtain ⟨hpos, hsk⟩ := out_first _ _ o h1
    have hne : o ++ tailL os' ≠ [] := by intro e; have := congrArg List.length e; rw [List.length_append, List.length_nil] at this; omega
    rw [scanW_cons false f _ p acc hne]
    by_cases hk : x.kind = 6 ∨ x.kind = 7
    · obtain ⟨u, rfl⟩ := out_meta x o h1 hk
      rw [List.cons_append, rd_dollar, if_neg (by simp [RT.bad])]
      rfl
    · have R := rd_out false x.kind x.text.data.toList o h1 (fun h => absurd h hk)
      obtain ⟨r1, r2, r3⟩ := R
      have hr : rdTok false (o ++ tailL os') = rdTok false o := by
        have h := rd_swap false o [] (tailL os') r2 (by rw [List.append_nil, r1]) (by rw [List.append_nil, r1]) (by rcases tailL_behind os' with h | h; exact .inr (.inl h); exact .inr (.inr (.inl h)))
        rw [List.append_nil] at h
        exact h
      simp only [List.length_cons] at hn
      rw [hr, r1, if_pos rfl, if_neg (by omega)]
      cases t with
      | nil => obtain ⟨y, hy, hk2⟩ := hm; simp at hy; subst hy; exact absurd hk2 hk
      | cons x2 t2 =>
        obtain ⟨o2, os2, rfl, h3, h4⟩ := outs_parts x2 t2 os' h2
        have hJ := join_skip (x2 :: t2) (o2 :: os2) h2
        have e1 : restL false (o ++ tailL (o2 :: os2)) = joinL (o2 :: os2) := by
          unfold restL gapN
          rw [hr, r1]
          simp only [List.drop_left]
          rw [show tailL (o2 :: os2) = 32 :: joinL (o2 :: os2) from rfl, skipF, if_pos (by decide), hJ]
          rfl
        rw [e1]
        apply scanW_meta (x2 :: t2) (o2 :: os2) f _ _ h2
        · obtain ⟨y, hy, hk2⟩ := hm
          rcases List.mem_cons.1 hy with rfl | hy
          · exact absurd hk2 hk
          · exact ⟨y, hy, hk2⟩
        · rw [List.length_append]; simp only [List.length_cons, List.length_nil] at hn ⊢; omega
        · rw [show tailL (o2 :: os2) = 32 :: joinL (o2 :: os2) from rfl, List.length_append, List.length_cons] at hf; omega
theorem meta_scan (xs : List Tok) (os : List (List UInt8)) (h : outs xs = some os) (hm : ∃ x ∈ xs, x.kind = 6 ∨ x.kind = 7) (hn : xs.length ≤ 600) : (scanR false (joinL os)).err = 11 := by
  unfold scanR
  rw [join_skip xs os h, List.drop_zero]
  exact scanW_meta xs os _ _ _ h hm (by simpa using hn) (by omega)

/-! ### What is read can be printed -/
def goodB (c : UInt8) : Prop := c.toNat = 10 ∨ (32 ≤ c.toNat ∧ c.toNat ≤ 126)
theorem esc_good : ∀ l : List UInt8, (∀ c ∈ l, goodB c) → ∃ e, escO l = some e
  | [], _ => ⟨[], rfl⟩
  | c :: t, h => by
    obtain ⟨e, he⟩ := esc_good t (fun d hd => h d (by simp [hd]))
    have hc := h c (by simp)
    unfold goodB at hc
    by_cases h1 : c.toNat = 34 ∨ c.toNat = 92
    · rw [escO_esc c t h1, he]; exact ⟨_, rfl⟩
    · by_cases h2 : c.toNat = 10
      · rw [escO_n c t h2, he]; exact ⟨_, rfl⟩
      · rw [escO_ch c t (by omega) (by omega) (by omega) (by omega), he]; exact ⟨_, rfl⟩
theorem snoc_good {acc : List UInt8} {d : UInt8} (h : ∀ c ∈ acc, goodB c) (hd : goodB d) : ∀ c ∈ acc ++ [d], goodB c := by
  intro c hc
  rcases List.mem_append.1 hc with h1 | h1
  · exact h c h1
  · rw [List.mem_singleton.1 h1]; exact hd
theorem lit_good : ∀ (m : Nat) (l : List UInt8) (n : Nat) (acc : List UInt8), l.length ≤ m → (∀ c ∈ acc, goodB c) → (litGo l n acc).err = 0 →
    (litGo l n acc).kind = 4 ∧ (litGo l n acc).text.length ≤ 60 ∧ ∀ c ∈ (litGo l n acc).text, goodB c
  | 0, [], n, acc, _, _, h => by simp [litGo, RT.bad] at h
  | 0, c :: t, n, acc, hk, _, h => by simp at hk
  | k + 1, [], n, acc, _, _, h => by simp [litGo, RT.bad] at h
  | k + 1, c :: t, n, acc, hk, ha, h => by
    simp only [List.length_cons] at hk
    by_cases h1 : c.toNat = 34
    · rw [litGo_q h1] at h ⊢
      split at h
      · simp [RT.bad] at h
      · rename_i hx
        rw [if_neg hx]
        exact ⟨rfl, by simp only; omega, ha⟩
    · by_cases h2 : c.toNat < 32 ∨ 126 < c.toNat
      · rw [litGo_bad h1 h2] at h; simp [RT.bad] at h
      · by_cases h3 : c.toNat = 92
        · cases t with
          | nil => rw [litGo_end h3] at h; simp [RT.bad] at h
          | cons d u =>
            simp only [List.length_cons] at hk
            by_cases h4 : d.toNat = 34 ∨ d.toNat = 92
            · rw [litGo_esc h3 h4] at h ⊢
              exact lit_good k u (n + 2) _ (by omega) (snoc_good ha (by unfold goodB; omega)) h
            · by_cases h5 : d.toNat = 110
              · rw [litGo_escn h3 h5] at h ⊢
                exact lit_good k u (n + 2) _ (by omega) (snoc_good ha (.inl rfl)) h
              · rw [litGo_escx h3 (by omega) (by omega) h5] at h; simp [RT.bad] at h
        · rw [litGo_ch h1 (by omega) (by omega) h3] at h ⊢
          exact lit_good k t (n + 1) _ (by omega) (snoc_good ha (by unfold goodB; omega)) h
theorem wordT_again (l : List UInt8) : wordLen (wordT l) = (wordT l).length := by
  have h : ∀ l : List UInt8, ((l.takeWhile isWordB).takeWhile isWordB) = l.takeWhile isWordB := by
    intro l
    induction l with
    | nil => rfl
    | cons a l ih =>
      rw [List.takeWhile_cons]
      cases ha : isWordB a
      · rfl
      · rw [if_pos rfl, List.takeWhile_cons, ha, if_pos rfl, ih]
  unfold wordT
  rw [take_wordLen]
  unfold wordLen
  rw [h]
theorem short_out {l : List UInt8} (hn : nameL l = true) (h24 : ¬ 24 < l.length) : shortL l = true := by
  unfold shortL
  rw [hn, Bool.true_and, decide_eq_true_eq]
  omega
theorem out_of_rd (pat : Bool) (l : List UInt8) (he : (rdTok pat l).err = 0) : ∃ o, textO (rdTok pat l).kind (rdTok pat l).text = some o := by
  cases l with
  | nil => simp [rdTok, RT.bad] at he
  | cons c t =>
    have hown := rd_own pat (c :: t) he
    have hlen := rdTok_len pat (c :: t) he
    by_cases h1 : isLetterI c.toNat = true
    · rw [rd_letter pat c t h1] at he ⊢
      unfold wordR at he ⊢
      by_cases h2 : isKwL (wordT (c :: t)) = true
      · rw [if_pos h2]
        exact ⟨_, by simp only [textO, Int.reduceEq, if_false, if_true]; rw [if_pos h2]⟩
      · rw [if_neg h2] at he ⊢
        by_cases h3 : 24 < (wordT (c :: t)).length
        · rw [if_pos h3] at he; simp [RT.bad] at he
        · rw [if_neg h3]
          have hn : nameL (wordT (c :: t)) = true := by
            have hw := wordT_again (c :: t)
            have hp := wordLen_pos c t h1
            have e : wordT (c :: t) = c :: t.take (wordLen (c :: t) - 1) := by
              unfold wordT
              obtain ⟨n, hn⟩ : ∃ n, wordLen (c :: t) = n + 1 := ⟨wordLen (c :: t) - 1, by omega⟩
              rw [hn]; rfl
            unfold nameL
            rw [hw, Bool.eq_false_iff.2 h2, e]
            simp [h1]
          exact ⟨_, by simp only [textO, if_true]; rw [if_pos (short_out hn h3)]⟩
    · by_cases h2 : isDigitI c.toNat = true
      · have hi := rd_digit pat c t h2
        rw [hi] at he hown hlen ⊢
        obtain ⟨n, hn⟩ : ∃ n, (intR (c :: t)).len = n + 1 := ⟨(intR (c :: t)).len - 1, by omega⟩
        rw [hn, List.take_succ_cons, rd_digit pat c _ h2] at hown
        have hk : (intR (c :: t)).kind = 3 ∧ (intR (c :: t)).text = c :: t.take n := by
          unfold intR at he hn ⊢
          split at he
          · simp [RT.bad] at he
          · rename_i q1
            rw [if_neg q1] at hn ⊢
            split at he
            · simp [RT.bad] at he
            · rename_i q2
              rw [if_neg q2] at hn ⊢
              simp only at hn
              exact ⟨rfl, by simp only [hn]; rfl⟩
        obtain ⟨k1, k2⟩ := hk
        have hok : intOk (c :: t.take n) = true := by
          unfold intOk
          simp only [hown, Bool.and_eq_true, decide_eq_true_eq]
          exact ⟨⟨h2, he⟩, k2⟩
        rw [k1, k2]
        exact ⟨_, by simp only [textO, Int.reduceEq, if_false, if_true]; rw [if_pos hok]⟩
      · by_cases h3 : c.toNat = 34
        · obtain rfl : c = 34 := UInt8.toNat_inj.1 h3
          rw [rd_quote] at he ⊢
          unfold litR at he ⊢
          obtain ⟨k1, k2, k3⟩ := lit_good _ _ 1 [] (Nat.le_refl _) (by simp) he
          obtain ⟨e, hesc⟩ := esc_good _ k3
          rw [k1]
          exact ⟨_, by simp only [textO, Int.reduceEq, if_false, if_true]; unfold quoteO; rw [if_neg (by omega), hesc]; rfl⟩
        · by_cases h4 : c.toNat = 36 ∧ pat = true
          · obtain ⟨h4, rfl⟩ := h4
            obtain rfl : c = 36 := UInt8.toNat_inj.1 h4
            rw [rd_meta] at he ⊢
            unfold metaR at he ⊢
            split at he
            · simp [RT.bad] at he
            · rename_i q1
              rw [if_neg q1]
              split at he
              · simp [RT.bad] at he
              · rename_i q2
                rw [if_neg q2]
                have hs := short_out (by simpa using q1) q2
                by_cases q3 : metaN (36 :: t) = 2
                · rw [if_pos q3]
                  exact ⟨_, by simp only [textO, Int.reduceEq, if_false, if_true]; rw [if_pos hs]⟩
                · rw [if_neg q3]
                  exact ⟨_, by simp only [textO, Int.reduceEq, if_false, if_true]; rw [if_pos hs]⟩
          · have hm : rdTok pat (c :: t) = markR (c :: t) := by unfold rdTok; simp only; rw [if_neg h1, if_neg h2, if_neg h3, if_neg h4]
            rw [hm] at he ⊢
            unfold markR at he ⊢
            split at he
            · rename_i q1
              rw [if_pos q1]
              exact ⟨_, by simp only [textO, Int.reduceEq, if_false, if_true]; rw [if_pos q1]⟩
            · rename_i q1
              rw [if_neg q1]
              split at he
              · rename_i q2
                rw [if_pos q2]
                exact ⟨_, by simp only [textO, Int.reduceEq, if_false, if_true]; rw [if_pos q2]⟩
              · simp [RT.bad] at he
theorem outs_of_toks (pat : Bool) : ∀ (ts : List Tok) (l : List UInt8) (p : Nat), tokS pat l p = some ts → ∃ os, outs ts = some os
  | [], l, p, h => ⟨[], rfl⟩
  | t :: ts, l, p, h => by
    obtain ⟨he, rfl, h2⟩ := tokS_cons pat l p t ts h
    obtain ⟨o, ho⟩ := out_of_rd pat _ he
    obtain ⟨os, hos⟩ := outs_of_toks pat ts _ _ h2
    refine ⟨o :: os, ?_⟩
    rw [outs, show (tokAt pat (l.drop (skipGo false l)) (p + skipGo false l)).out = some o from ho, hos]
/-- What a scan gives can be printed, and is read again. -/
theorem again (pat : Bool) (l : List UInt8) (L : List Tok) (off : Int) (h : scanR pat l = ⟨L, off, 0⟩) (hp : pat = true) :
    ∃ os ts, outs L = some os ∧ scanR pat (joinL os) = ⟨ts, 0, 0⟩ ∧ ts.map (fun t => (t.kind, t.text)) = L.map (fun t => (t.kind, t.text)) := by
  obtain ⟨h1, h2, h3⟩ := scanR_inv pat l L off 0 h rfl
  obtain ⟨os, hos⟩ := outs_of_toks pat L l 0 h1
  obtain ⟨ts, h4, h5⟩ := back_scan pat L os hos (fun _ _ _ => hp) h2
  exact ⟨os, ts, hos, h4, h5⟩
end Go.Proofs.Ytlnoadnejefmoaa
