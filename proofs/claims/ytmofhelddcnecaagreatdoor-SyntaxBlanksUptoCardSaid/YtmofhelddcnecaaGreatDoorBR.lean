/- The document's parser gives what the plain one gives. -/
import Derived.Test.YtmofhelddcnecaaGreatDoorBS
import Derived.Test.YtmofhelddcnecaaGreatDoorBYa
import Derived.Test.YtmofhelddcnecaaGreatDoorBYb
import Derived.Test.YtmofhelddcnecaaGreatDoorBYc
import Derived.Lib.Strings
set_option linter.unusedVariables false
set_option linter.unusedSimpArgs false
namespace Go.Ev
open PV
section
variable {pre post : List (List PV)} {S : Src} {nx n k : Nat} {b : Option Int} {X : PV → List (List PV) → Prop}
/- The steps. -/
variable {α : Type} {G : Int → Nat → Prop}
end
end Go.Ev
set_option maxRecDepth 4000
namespace Go.Ev
open PV
section
variable {pre post : List (List PV)} {S : Src} {n : Nat}
end
end Go.Ev
set_option maxRecDepth 4000
set_option linter.unusedSectionVars false
namespace Go.Ev
open PV
section
variable {pre post : List (List PV)} {S : Src} {n : Nat}
/- Once there is an error nothing is read. -/
end
section
variable {pre post : List (List PV)} {S : Src} {n g d : Nat} {E : Ps Tree} [hE : Sp E]
local instance : Fw E := Sp.fw'
/- The keywords and parentheses behind which an operand may stand. -/
end
end Go.Ev
set_option maxRecDepth 4000
namespace Go.Ev
open PV
theorem drop_some {l : List Tree} {i : Nat} {y : Tree} {r : List Tree} (h : l.drop i = y :: r) : i < l.length ∧ l.getD i default = y ∧ l.drop (i + 1) = r := by
  have hil : i < l.length := by
    rcases Nat.lt_or_ge i l.length with h' | h'
    · exact h'
    · rw [List.drop_eq_nil_iff.2 h'] at h; cases h
  have : l[i]? = some y := by rw [← List.head?_drop, h]; rfl
  exact ⟨hil, by rw [List.getD_eq_getElem?_getD, this]; rfl, by rw [← List.drop_drop, h]; rfl⟩
section
variable {pre post : List (List PV)} {S : Src} {n g d : Nat} {E : Ps Tree} [hE : Sp E]
local instance : Fw E := Sp.fw'
end
/-- The depth of expressions. -/
def eE (g : Nat) : Nat → Nat
  | 0 => 0
  | j + 1 => eE g j + 31 + g
section
variable {pre post : List (List PV)} {S : Src} {n g : Nat}
end
end Go.Ev
set_option maxRecDepth 4000
namespace Go.Ev
open PV
def eX (g : Nat) : Nat := eE g g + 31 + g + 13
section
variable {pre post : List (List PV)} {S : Src} {n g : Nat}
end
/-- The depth of statements. -/
def eS (g : Nat) : Nat → Nat
  | 0 => 0
  | j + 1 => eX g + eS g j + 20
section
variable {pre post : List (List PV)} {S : Src} {n g : Nat}
end
end Go.Ev
set_option maxRecDepth 4000
namespace Go.Ev
open PV
def eD (g : Nat) : Nat := eX g + eS g g + 60
section
variable {pre post : List (List PV)} {S : Src} {n g : Nat}
end
end Go.Ev
