/- What the evaluator comes to at some functions. -/
import Derived.Test.YtmofhelddcnecaaGreatDoorProg
import Derived.Test.YtmofhelddcnecaaGreatDoorU4
import Derived.KernelRfl
set_option linter.unusedVariables false
set_option maxRecDepth 100000
namespace Go.Ev
open Go.Ev.PV
noncomputable section
variable (q : Caller) (n m0 m1 : Nat)
variable (i1 i2 i3 i4 i5 i6 i7 i8 i10 i12 i64 : Int)
variable (b1 b2 b3 b4 b5 b6 b7 b8 b9 b10 : Bool)
variable (t0 t3 t4 t5 : ByteArray)
variable (r1 r2 : List (List PV))
variable (p2 p3 p4 p5 p6 p7 p8 p9 p10 p11 : PV)
variable (a0 a1 a2 : Nat)
variable (sg : List (List PV)) (K : KT)
end
end Go.Ev
