/- What the evaluator comes to at some functions. -/
import Derived.Test.YtmofhelddcnecaaGreatDoorProg
import Derived.Test.YtmofhelddcnecaaGreatDoorB4
import Derived.KernelRfl
set_option linter.unusedVariables false
set_option maxRecDepth 100000
namespace Go.Ev
open Go.Ev.PV
noncomputable section
variable (q : Caller) (n m0 : Nat)
variable (i1 i2 i3 i4 i5 i6 i7 i8 i9 i11 i14 i64 : Int)
variable (b1 b2 b3 b4 b5 b6 b7 b8 b9 b10 b11 b12 b13 b14 b15 : Bool)
variable (t0 t1 t2 t3 t4 t5 t6 t7 : ByteArray)
variable (r1 r2 r4 r5 r6 r8 r9 r10 r12 : List (List PV))
variable (p2 p3 p5 p8 p9 p13 p14 : PV)
variable (a0 a1 a2 a4 : Nat)
variable (sg : List (List PV)) (K : KT)
end
end Go.Ev
