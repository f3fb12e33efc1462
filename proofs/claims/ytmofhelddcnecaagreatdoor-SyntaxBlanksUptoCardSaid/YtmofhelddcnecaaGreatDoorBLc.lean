/- What the evaluator comes to at some functions. -/
import Derived.Test.YtmofhelddcnecaaGreatDoorProg
import Derived.Test.YtmofhelddcnecaaGreatDoorB4
import Derived.KernelRfl
set_option linter.unusedVariables false
set_option maxRecDepth 100000
namespace Go.Ev
open Go.Ev.PV
noncomputable section
variable (q : Caller) (n  : Nat)
variable (i0 i1 i2 i3 i4 i5 i6 i7 i8 i9 i10 i11 i12 i13 i14 i15 i64 : Int)
variable (b1 b2 b8 b9 b10 b15 b16 b17 : Bool)
variable (t0 t1 t2 t3 t9 t10 : ByteArray)
variable (r5 r6 r12 r13 : List (List PV))
variable (a0 a1 : Nat)
variable (sg : List (List PV)) (K : KT)
end
end Go.Ev
