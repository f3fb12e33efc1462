import Derived.Test.YtlnoadnejefmoaaSpec
set_option linter.unusedVariables false
set_option linter.unusedSimpArgs false
namespace Go.Proofs.Ytlnoadnejefmoaa

/-! What is printed. -/
/-- The inside of a literal with these contents, where there is one. -/
def escO : List UInt8 → Option (List UInt8)
  | [] => some []
  | c :: t => if c.toNat = 34 ∨ c.toNat = 92 then (escO t).map fun e => 92 :: c :: e
    else if c.toNat = 10 then (escO t).map fun e => 92 :: 110 :: e
    else if c.toNat < 32 ∨ 126 < c.toNat then none
    else (escO t).map fun e => c :: e
def quoteO (l : List UInt8) : Option (List UInt8) := if 60 < l.length then none else (escO l).map fun e => 34 :: (e ++ [34])
def shortL (l : List UInt8) : Bool := nameL l && decide (l.length ≤ 24)
def intOk (l : List UInt8) : Bool := (match l with | [] => false | c :: _ => isDigitI c.toNat) && decide ((intR l).err = 0) && decide ((intR l).text = l)
def textO (k : Int) (l : List UInt8) : Option (List UInt8) :=
  if k = 1 then if shortL l then some l else none
  else if k = 2 then if isKwL l then some l else none
  else if k = 3 then if intOk l then some l else none
  else if k = 4 then quoteO l
  else if k = 5 then if isMarkL l then some l else none
  else if k = 6 then if shortL l then some (36 :: l) else none
  else if k = 7 then if shortL l then some (36 :: 36 :: l) else none
  else none
def Tok.out (x : Tok) : Option (List UInt8) := textO x.kind x.text.data.toList
/-- Texts with a blank between them. -/
def joinL : List (List UInt8) → List UInt8
  | [] => []
  | [a] => a
  | a :: b :: t => a ++ 32 :: joinL (b :: t)
def outs : List Tok → Option (List (List UInt8))
  | [] => some []
  | x :: t => match x.out, outs t with
    | some a, some l => some (a :: l)
    | _, _ => none
/-- The printed text, where all are tokens. -/
def printO (xs : List Tok) : Option (List UInt8) := (outs xs).map joinL

theorem escO_len : ∀ l e, escO l = some e → e.length ≤ 2 * l.length
  | [], e, h => by simp [escO] at h; subst h; simp
  | c :: t, e, h => by
    unfold escO at h
    have ih := escO_len t
    split at h
    · obtain ⟨a, ha, rfl⟩ := Option.map_eq_some_iff.1 h
      have := ih a ha
      simp; omega
    · split at h
      · obtain ⟨a, ha, rfl⟩ := Option.map_eq_some_iff.1 h
        have := ih a ha
        simp; omega
      · split at h
        · simp at h
        · obtain ⟨a, ha, rfl⟩ := Option.map_eq_some_iff.1 h
          have := ih a ha
          simp; omega
theorem escO_esc (c : UInt8) (t : List UInt8) (h : c.toNat = 34 ∨ c.toNat = 92) : escO (c :: t) = (escO t).map fun e => 92 :: c :: e := by rw [escO, if_pos h]
theorem escO_n (c : UInt8) (t : List UInt8) (h : c.toNat = 10) : escO (c :: t) = (escO t).map fun e => 92 :: 110 :: e := by rw [escO, if_neg (by omega), if_pos h]
theorem escO_no (c : UInt8) (t : List UInt8) (h1 : c.toNat ≠ 10) (h : c.toNat < 32 ∨ 126 < c.toNat) : escO (c :: t) = none := by rw [escO, if_neg (by omega), if_neg h1, if_pos h]
theorem escO_ch (c : UInt8) (t : List UInt8) (h1 : c.toNat ≠ 34) (h2 : c.toNat ≠ 92) (h : 32 ≤ c.toNat) (h3 : c.toNat ≤ 126) : escO (c :: t) = (escO t).map fun e => c :: e := by rw [escO, if_neg (by omega), if_neg (by omega), if_neg (by omega)]
end Go.Proofs.Ytlnoadnejefmoaa
