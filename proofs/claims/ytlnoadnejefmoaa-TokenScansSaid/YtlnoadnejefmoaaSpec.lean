set_option linter.unusedVariables false
set_option linter.unusedSimpArgs false
namespace Go.Proofs.Ytlnoadnejefmoaa

/-! Tokens of a source text, on lists of bytes. -/
def pfxL (p l : List UInt8) : Bool := p.isPrefixOf l
def isDigitI (c : Int) : Bool := decide (48 ≤ c) && decide (c ≤ 57)
def isLetterI (c : Int) : Bool := (decide (97 ≤ c) && decide (c ≤ 122)) || (decide (65 ≤ c) && decide (c ≤ 90)) || c == 95
def isWordB (b : UInt8) : Bool := isLetterI b.toNat || isDigitI b.toNat
def isDigitB (b : UInt8) : Bool := isDigitI b.toNat
def blankI (c : Int) : Bool := c == 32 || c == 9 || c == 10
def wordLen (l : List UInt8) : Nat := (l.takeWhile isWordB).length
def digLen (l : List UInt8) : Nat := (l.takeWhile isDigitB).length

theorem wordLen_le (l : List UInt8) : wordLen l ≤ l.length := (List.takeWhile_sublist _).length_le
theorem digLen_le (l : List UInt8) : digLen l ≤ l.length := (List.takeWhile_sublist _).length_le
theorem wordLen_cons (c : UInt8) (l : List UInt8) : wordLen (c :: l) = if isWordB c then wordLen l + 1 else 0 := by
  unfold wordLen
  rw [List.takeWhile_cons]
  cases isWordB c <;> simp
theorem digLen_cons (c : UInt8) (l : List UInt8) : digLen (c :: l) = if isDigitB c then digLen l + 1 else 0 := by
  unfold digLen
  rw [List.takeWhile_cons]
  cases isDigitB c <;> simp

/-- The keywords and the marks. -/
def kwL : List (List UInt8) := [[105, 109, 112, 111, 114, 116], [99, 108, 97, 115, 115], [105, 110, 116, 101, 114, 102, 97, 99, 101], [101, 120, 116, 101, 110, 100, 115], [105, 109, 112, 108, 101, 109, 101, 110, 116, 115], [102, 117, 110, 99], [118, 97, 114], [114, 101, 116, 117, 114, 110], [105, 102], [101, 108, 115, 101], [119, 104, 105, 108, 101], [110, 101, 119], [116, 114, 117, 101], [102, 97, 108, 115, 101], [110, 117, 108, 108], [116, 104, 105, 115]]
def markL : List (List UInt8) := [[123], [125], [40], [41], [59], [44], [58], [46], [61], [61, 61], [33, 61], [60], [62], [43], [45], [42], [47], [37], [33], [38, 38], [124, 124]]
def isKwL (l : List UInt8) : Bool := kwL.any (l == ·)
def isMarkL (l : List UInt8) : Bool := markL.any (l == ·)
/-- A name, of any length. -/
def nameL (l : List UInt8) : Bool := (match l with | [] => false | c :: _ => isLetterI c.toNat) && wordLen l == l.length && !isKwL l

/-- The token at the beginning of a text: its error (0: none), kind, text and length. -/
structure RT where
  err : Int
  kind : Int
  text : List UInt8
  len : Nat
deriving DecidableEq
def RT.bad (e : Int) : RT := ⟨e, 0, [], 0⟩
def intR (l : List UInt8) : RT := if l.head? == some 48 && decide (1 < digLen l) then .bad 11 else if 9 < digLen l then .bad 4 else ⟨0, 3, l.take (digLen l), digLen l⟩
/-- A literal, from behind its first quotation mark on: n bytes of it are read, which mean acc. -/
def litGo : List UInt8 → Nat → List UInt8 → RT
  | [], _, _ => .bad 11
  | c :: t, n, acc =>
    if c.toNat = 34 then if 60 < acc.length then .bad 4 else ⟨0, 4, acc, n + 1⟩
    else if c.toNat < 32 ∨ 126 < c.toNat then .bad 11
    else if c.toNat = 92 then
      match t with
      | [] => .bad 11
      | d :: u => if d.toNat = 34 ∨ d.toNat = 92 then litGo u (n + 2) (acc ++ [d]) else if d.toNat = 110 then litGo u (n + 2) (acc ++ [10]) else .bad 11
    else litGo t (n + 1) (acc ++ [c])
def litR (l : List UInt8) : RT := litGo (l.drop 1) 1 []
def metaN (l : List UInt8) : Nat := if (l.drop 1).head? = some 36 then 2 else 1
def metaT (l : List UInt8) : List UInt8 := (l.drop (metaN l)).take (wordLen (l.drop (metaN l)))
def metaR (l : List UInt8) : RT := if !nameL (metaT l) then .bad 11 else if 24 < (metaT l).length then .bad 4 else ⟨0, if metaN l = 2 then 7 else 6, metaT l, metaN l + (metaT l).length⟩
def markR (l : List UInt8) : RT := if isMarkL (l.take 2) then ⟨0, 5, l.take 2, (l.take 2).length⟩ else if isMarkL (l.take 1) then ⟨0, 5, l.take 1, 1⟩ else .bad 11
def wordT (l : List UInt8) : List UInt8 := l.take (wordLen l)
def wordR (l : List UInt8) : RT := if isKwL (wordT l) then ⟨0, 2, wordT l, (wordT l).length⟩ else if 24 < (wordT l).length then .bad 4 else ⟨0, 1, wordT l, (wordT l).length⟩
def rdTok (pat : Bool) (l : List UInt8) : RT :=
  match l with
  | [] => .bad 11
  | c :: _ =>
    if isLetterI c.toNat then wordR l
    else if isDigitI c.toNat then intR l
    else if c.toNat = 34 then litR l
    else if c.toNat = 36 ∧ pat = true then metaR l
    else markR l

/-- How many blanks and bytes of comments; inside: in a comment. -/
def skipGo (inside : Bool) : List UInt8 → Nat
  | [] => 0
  | c :: t =>
    if inside then if c.toNat = 10 then skipGo false t + 1 else skipGo true t + 1
    else if blankI c.toNat then skipGo false t + 1
    else if c.toNat = 47 ∧ (t.head?.map (·.toNat)) = some 47 then skipGo true t + 1
    else 0

structure Tok where
  kind : Int
  text : ByteArray
  at_ : Int
  end_ : Int
deriving DecidableEq
/-- The answer of a scan: its tokens, or the offset and the error. -/
structure SR where
  toks : List Tok
  off : Int
  err : Int
def tx (l : List UInt8) : ByteArray := ⟨l.toArray⟩
def scanW (pat : Bool) : Nat → List UInt8 → Nat → List Tok → SR
  | 0, _, _, acc => ⟨acc, 0, 0⟩
  | f + 1, l, at_, acc =>
    match l with
    | [] => ⟨acc, 0, 0⟩
    | _ =>
      if (rdTok pat l).err = 0 then
        if 600 ≤ acc.length then ⟨[], at_, 4⟩
        else scanW pat f ((l.drop (rdTok pat l).len).drop (skipGo false (l.drop (rdTok pat l).len))) (at_ + (rdTok pat l).len + skipGo false (l.drop (rdTok pat l).len))
          (acc ++ [⟨(rdTok pat l).kind, tx (rdTok pat l).text, at_, (at_ + (rdTok pat l).len : Nat)⟩])
      else ⟨[], at_, (rdTok pat l).err⟩
def scanR (pat : Bool) (l : List UInt8) : SR := scanW pat (l.length + 1) (l.drop (skipGo false l)) (skipGo false l) []

theorem skipGo_le : ∀ (l : List UInt8) (b : Bool), skipGo b l ≤ l.length
  | [], b => by simp [skipGo]
  | c :: t, b => by
    have h1 := skipGo_le t true
    have h2 := skipGo_le t false
    unfold skipGo
    simp only [List.length_cons]
    split <;> split <;> first | omega | (split <;> omega)

theorem skipGo_cons (b : Bool) (c : UInt8) (t : List UInt8) : skipGo b (c :: t) =
    if b then if c.toNat = 10 then skipGo false t + 1 else skipGo true t + 1
    else if blankI c.toNat then skipGo false t + 1
    else if c.toNat = 47 ∧ (t.head?.map (·.toNat)) = some 47 then skipGo true t + 1
    else 0 := rfl
/-- A comment's begin: from there on it is as in a comment. -/
theorem skipGo_slash (l : List UInt8) (h : pfxL [47, 47] l = true) : skipGo false l = skipGo true l := by
  match l, h with
  | [], h => simp [pfxL, List.isPrefixOf] at h
  | [a], h => simp [pfxL, List.isPrefixOf] at h
  | a :: b :: t, h =>
    simp [pfxL, List.isPrefixOf] at h
    obtain ⟨rfl, rfl⟩ := h
    rfl
/-- In a comment: to the line feed, or to the end. -/
theorem skipGo_none : ∀ (l : List UInt8), (∀ k : Nat, l[k]? ≠ some 10) → skipGo true l = l.length
  | [], _ => rfl
  | c :: t, h => by
    have h0 : c.toNat ≠ 10 := fun e => h 0 (by simp; exact UInt8.toNat_inj.1 e)
    rw [skipGo_cons, if_pos rfl, if_neg h0, skipGo_none t (fun k => by simpa using h (k + 1))]
    rfl
theorem skipGo_some : ∀ (l : List UInt8) (o : Nat), l[o]? = some 10 → (∀ k : Nat, k < o → l[k]? ≠ some 10) → skipGo true l = o + skipGo false (l.drop o)
  | [], o, h, _ => by simp at h
  | c :: t, 0, h, _ => by
    simp at h
    subst h
    simp [skipGo_cons, blankI]
  | c :: t, o + 1, h, hk => by
    have h0 : c.toNat ≠ 10 := fun e => hk 0 (by omega) (by simp; exact UInt8.toNat_inj.1 e)
    rw [skipGo_cons, if_pos rfl, if_neg h0, skipGo_some t o (by simpa using h) (fun k hk1 => by simpa using hk (k + 1) (by omega))]
    simp
    omega
theorem skipGo_stop (l : List UInt8) (c : UInt8) (t : List UInt8) (hl : l = c :: t) (hb : blankI c.toNat = false) (h : pfxL [47, 47] l = false) : skipGo false l = 0 := by
  subst hl
  rw [skipGo_cons, if_neg (by simp), if_neg (by simp [hb])]
  rw [if_neg]
  rintro ⟨h1, h2⟩
  have e1 : c = 47 := UInt8.toNat_inj.1 h1
  subst e1
  cases t with
  | nil => simp at h2
  | cons d u =>
    simp at h2
    have e2 : d = 47 := UInt8.toNat_inj.1 h2
    subst e2
    simp [pfxL, List.isPrefixOf] at h

section
variable {c d : UInt8} {t u : List UInt8} {n : Nat} {acc : List UInt8}
theorem litGo_q (h : c.toNat = 34) : litGo (c :: t) n acc = if 60 < acc.length then .bad 4 else ⟨0, 4, acc, n + 1⟩ := by
  cases t <;> simp [litGo, h]
theorem litGo_bad (h : c.toNat ≠ 34) (h2 : c.toNat < 32 ∨ 126 < c.toNat) : litGo (c :: t) n acc = .bad 11 := by
  cases t <;> simp [litGo, h, h2]
theorem litGo_end (h : c.toNat = 92) : litGo [c] n acc = .bad 11 := by simp [litGo, h]
theorem litGo_esc (h : c.toNat = 92) (h2 : d.toNat = 34 ∨ d.toNat = 92) : litGo (c :: d :: u) n acc = litGo u (n + 2) (acc ++ [d]) := by
  rw [litGo]; simp [h, h2]
theorem litGo_escn (h : c.toNat = 92) (h2 : d.toNat = 110) : litGo (c :: d :: u) n acc = litGo u (n + 2) (acc ++ [10]) := by
  rw [litGo]; simp [h, h2]
theorem litGo_escx (h : c.toNat = 92) (h1 : d.toNat ≠ 34) (h2 : d.toNat ≠ 92) (h3 : d.toNat ≠ 110) : litGo (c :: d :: u) n acc = .bad 11 := by
  rw [litGo]; simp [h, h1, h2, h3]
theorem litGo_ch (h : c.toNat ≠ 34) (h1 : 32 ≤ c.toNat) (h2 : c.toNat ≤ 126) (h3 : c.toNat ≠ 92) : litGo (c :: t) n acc = litGo t (n + 1) (acc ++ [c]) := by
  cases t <;> simp [litGo, h, h3] <;> omega
end

theorem litGo_len : ∀ (k : Nat) (l : List UInt8) (n : Nat) (acc : List UInt8), l.length ≤ k → (litGo l n acc).err = 0 → n < (litGo l n acc).len ∧ (litGo l n acc).len ≤ n + l.length
  | 0, [], n, acc, _, h => by simp [litGo, RT.bad] at h
  | 0, c :: t, n, acc, hk, h => by simp at hk
  | k + 1, [], n, acc, _, h => by simp [litGo, RT.bad] at h
  | k + 1, c :: t, n, acc, hk, h => by
    simp only [List.length_cons] at hk ⊢
    by_cases h1 : c.toNat = 34
    · rw [litGo_q h1] at h ⊢
      split at h
      · simp [RT.bad] at h
      · rename_i hx
        rw [if_neg hx]
        simp only
        omega
    · by_cases h2 : c.toNat < 32 ∨ 126 < c.toNat
      · rw [litGo_bad h1 h2] at h; simp [RT.bad] at h
      · by_cases h3 : c.toNat = 92
        · cases t with
          | nil => rw [litGo_end h3] at h; simp [RT.bad] at h
          | cons d u =>
            simp only [List.length_cons] at hk ⊢
            by_cases h4 : d.toNat = 34 ∨ d.toNat = 92
            · rw [litGo_esc h3 h4] at h ⊢
              have := litGo_len k u (n + 2) _ (by omega) h
              omega
            · by_cases h5 : d.toNat = 110
              · rw [litGo_escn h3 h5] at h ⊢
                have := litGo_len k u (n + 2) _ (by omega) h
                omega
              · rw [litGo_escx h3 (by omega) (by omega) h5] at h; simp [RT.bad] at h
        · rw [litGo_ch h1 (by omega) (by omega) h3] at h ⊢
          have := litGo_len k t (n + 1) _ (by omega) h
          omega
theorem wordLen_pos (c : UInt8) (t : List UInt8) (h : isLetterI c.toNat = true) : 0 < wordLen (c :: t) := by
  rw [wordLen_cons, if_pos (by unfold isWordB; rw [h]; rfl)]
  omega
theorem rdTok_len (pat : Bool) (l : List UInt8) (h : (rdTok pat l).err = 0) : 0 < (rdTok pat l).len ∧ (rdTok pat l).len ≤ l.length := by
  cases l with
  | nil => simp [rdTok, RT.bad] at h
  | cons c t =>
    have hw := wordLen_le (c :: t)
    have hd := digLen_le (c :: t)
    unfold rdTok at h ⊢
    simp only at h ⊢
    by_cases h1 : isLetterI c.toNat = true
    · rw [if_pos h1] at h ⊢
      have hp := wordLen_pos c t h1
      have hl : (wordT (c :: t)).length = wordLen (c :: t) := by unfold wordT; rw [List.length_take]; omega
      unfold wordR at h ⊢
      by_cases h2 : isKwL (wordT (c :: t)) = true
      · rw [if_pos h2]; simp only; omega
      · rw [if_neg h2] at h ⊢
        by_cases h3 : 24 < (wordT (c :: t)).length
        · rw [if_pos h3] at h; simp [RT.bad] at h
        · rw [if_neg h3]; simp only; omega
    · rw [if_neg h1] at h ⊢
      by_cases h2 : isDigitI c.toNat = true
      · rw [if_pos h2] at h ⊢
        have hp : 0 < digLen (c :: t) := by rw [digLen_cons, if_pos (show isDigitB c = true from h2)]; omega
        unfold intR at h ⊢
        split at h
        · simp [RT.bad] at h
        · rename_i hx
          rw [if_neg hx]
          split at h
          · simp [RT.bad] at h
          · rename_i hy
            rw [if_neg hy]
            simp only; omega
      · rw [if_neg h2] at h ⊢
        by_cases h3 : c.toNat = 34
        · rw [if_pos h3] at h ⊢
          unfold litR at h ⊢
          have := litGo_len t.length ((c :: t).drop 1) 1 [] (by simp) h
          simp at this ⊢
          omega
        · rw [if_neg h3] at h ⊢
          by_cases h4 : c.toNat = 36 ∧ pat = true
          · rw [if_pos h4] at h ⊢
            unfold metaR at h ⊢
            split at h
            · simp [RT.bad] at h
            · rename_i hx
              rw [if_neg hx]
              split at h
              · simp [RT.bad] at h
              · rename_i hy
                rw [if_neg hy]
                simp only
                have e1 : 1 ≤ metaN (c :: t) := by unfold metaN; split <;> omega
                have e2 : (metaT (c :: t)).length ≤ ((c :: t).drop (metaN (c :: t))).length := (List.take_sublist _ _).length_le
                rw [List.length_drop] at e2
                have e3 : metaN (c :: t) ≤ (c :: t).length := by
                  unfold metaN
                  split
                  · rename_i hz
                    cases t with
                    | nil => simp at hz
                    | cons d u => simp
                  · simp
                omega
          · rw [if_neg h4] at h ⊢
            unfold markR at h ⊢
            split at h
            · rename_i hx
              rw [if_pos hx]
              simp only [List.length_take, List.length_cons]
              omega
            · rename_i hx
              rw [if_neg hx]
              split at h
              · rename_i hy
                rw [if_pos hy]
                simp
              · simp [RT.bad] at h
end Go.Proofs.Ytlnoadnejefmoaa
