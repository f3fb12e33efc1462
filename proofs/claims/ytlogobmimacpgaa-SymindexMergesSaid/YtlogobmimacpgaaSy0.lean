/- The words of the index of symbols: simple names, orders on occurrences, the index of a list. Strings of at most 1000000 bytes where it is told. -/
import Derived.Test.YtlogobmimacpgaaL32x0
import Derived.Test.YtlogobmimacpgaaL32x4
import Derived.Test.YtlogobmimacpgaaL32x8
import Derived.Test.YtlogobmimacpgaaIdxOrd
set_option linter.unusedVariables false
set_option linter.unusedSimpArgs false
namespace Go.Proofs.Ytlogobmimacpgaa.L32
open Go.RowKit Go.Proofs.YtlogobmimacpgaaW.PrintWords Go.Proofs.Ytlogobmimacpgaa.Idx
/-- The last dot below n; -1: none. -/
def lastI (s : ByteArray) : Nat → Int
  | 0 => -1
  | n + 1 => if bt s (n : Int) = 46 then n else lastI s n
theorem lastI_ge (s : ByteArray) : ∀ n, -1 ≤ lastI s n
  | 0 => by simp [lastI]
  | n + 1 => by unfold lastI; have := lastI_ge s n; split <;> omega
theorem lastI_lt (s : ByteArray) : ∀ n, lastI s n < n
  | 0 => by simp [lastI]
  | n + 1 => by unfold lastI; have := lastI_lt s n; split <;> omega
def simpleB (s : ByteArray) : ByteArray := s.extract (lastI s s.size + 1).toNat s.size
theorem simpleB_size (s : ByteArray) : (simpleB s).size ≤ s.size := by unfold simpleB; rw [ByteArray.size_extract]; omega
theorem wrap_in (x : Int) (h1 : -9223372036854775808 ≤ x) (h2 : x ≤ 9223372036854775807) : wrap64 x = x := by unfold wrap64; omega
theorem lastIdx (s : ByteArray) (hs : s.size ≤ 1000000) : ∀ (n k : Nat), n ≤ s.size → n < k → bytealg_LastIndexByteString.l0 k s 46 ((n : Int) - 1) = some (lastI s n) := by
  intro n
  induction n with
  | zero =>
    intro k _ hk
    obtain ⟨k, rfl⟩ : ∃ q, k = q + 1 := ⟨k - 1, by omega⟩
    unfold bytealg_LastIndexByteString.l0
    rw [if_neg (by omega)]
    rfl
  | succ n ih =>
    intro k hn hk
    obtain ⟨k, rfl⟩ : ∃ q, k = q + 1 := ⟨k - 1, by omega⟩
    unfold bytealg_LastIndexByteString.l0 lastI
    rw [show ((n + 1 : Nat) : Int) - 1 = (n : Int) from by omega, if_pos (by omega), if_pos (by omega), if_pos (by omega)]
    split
    · rfl
    · rw [wrap_in _ (by omega) (by omega)]
      exact ih k (by omega) (by omega)
theorem simple_f (s : ByteArray) (hs : s.size ≤ 1000000) (k : Nat) (hk : s.size < k) : decl_Simple.f k s = some (simpleB s) := by
  have h1 := lastI_ge s s.size
  have h2 := lastI_lt s s.size
  unfold decl_Simple.f strings_LastIndexByte.f bytealg_LastIndexByteString.f
  rw [wrap_in ((s.size : Int) - 1) (by omega) (by omega), lastIdx s hs s.size k (by omega) hk]
  simp only [Option.bind_some]
  rw [wrap_in _ (by omega) (by omega), if_pos (by omega), if_pos (by omega)]
  rfl
theorem lastDot_f (s : ByteArray) (hs : s.size ≤ 1000000) : ∀ (d n k : Nat), n + d = s.size → d < k → codesearchref14_lastDot.l0 k s (lastI s n) (n : Int) = some (lastI s s.size) := by
  intro d
  induction d with
  | zero =>
    intro n k hn hk
    obtain ⟨k, rfl⟩ : ∃ q, k = q + 1 := ⟨k - 1, by omega⟩
    obtain rfl : n = s.size := by omega
    unfold codesearchref14_lastDot.l0
    rw [if_neg (by omega)]
  | succ d ih =>
    intro n k hn hk
    obtain ⟨k, rfl⟩ : ∃ q, k = q + 1 := ⟨k - 1, by omega⟩
    have h := ih (n + 1) k (by omega) (by omega)
    unfold codesearchref14_lastDot.l0
    rw [if_pos (by omega), if_pos (by omega), wrap_in _ (by omega) (by omega)]
    rw [lastI] at h
    rw [show ((n + 1 : Nat) : Int) = (n : Int) + 1 from by omega] at h
    split
    · rename_i hb; rw [if_pos hb] at h; exact h
    · rename_i hb; rw [if_neg hb] at h; exact h
theorem rsimple_f (s : ByteArray) (hs : s.size ≤ 1000000) (k : Nat) (hk : s.size < k) : codesearchref14_Simple.f k s = some (simpleB s) := by
  have h1 := lastI_ge s s.size
  have h2 := lastI_lt s s.size
  unfold codesearchref14_Simple.f codesearchref14_lastDot.f
  rw [show (0 : Int) = ((0 : Nat) : Int) from rfl, show (-1 : Int) = lastI s 0 from rfl, lastDot_f s hs s.size 0 k (by omega) hk]
  simp only [Option.bind_some]
  rw [wrap_in _ (by omega) (by omega), if_pos (by omega), if_pos (by omega)]
  rfl
/-! Occurrences. -/
def occ (x : S56) : Occ := (x.f0, x.f1, x.f2, x.f3)
theorem occ_inj {x y : S56} (h : occ x = occ y) : x = y := by
  cases x; cases y
  simp [occ] at h
  obtain ⟨rfl, rfl, rfl, rfl⟩ := h
  rfl
def ltS (x y : S56) : Bool := ltA (occ x) (occ y)
theorem ordS : Ord ltS := ⟨fun x => ordA.irr _, fun x y z => ordA.tr _ _ _, fun x y h1 h2 => occ_inj (ordA.tot _ _ h1 h2)⟩
def keyS (x : S56) : ByteArray := simpleB x.f3
def idxS (l : List S56) : List (ByteArray × List S56) := idx ltS ltN keyS l
def post (p : ByteArray × List S56) : S58 := ⟨p.1, p.2⟩
def pair (p : S58) : ByteArray × List S56 := (p.f0, p.f1)
def cfS (x y : S56) : Int := if ltS x y then -1 else if ltS y x then 1 else 0
def cfP (x y : S58) : Int := if ltN x.f0 y.f0 then -1 else if ltN y.f0 x.f0 then 1 else 0
def few (l : List S56) : Bool := decide (l.length ≤ 1000000) && l.all fun x => decide (x.f3.size ≤ 1000000)
def symindex_index.f (l : List S56) : Option (List S58) := if few l = true then some ((idxS l).map post) else none
end Go.Proofs.Ytlogobmimacpgaa.L32
