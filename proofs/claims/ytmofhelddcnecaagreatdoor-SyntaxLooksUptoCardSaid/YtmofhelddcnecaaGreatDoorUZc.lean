/- What the evaluator comes to at some functions. -/
import Derived.Test.YtmofhelddcnecaaGreatDoorProg
import Derived.Test.YtmofhelddcnecaaGreatDoorU4
import Derived.KernelRfl
set_option linter.unusedVariables false
set_option maxRecDepth 100000
namespace Go.Ev
open Go.Ev.PV
noncomputable section
variable (q : Caller) (n m0 m1 m2 : Nat)
variable (i0 i1 i2 i3 i5 i6 i7 i8 i9 i10 i13 i15 i64 : Int)
variable (b1 b2 b3 b4 b5 b6 b8 b10 b11 b12 b13 b14 b15 b16 b17 b18 b20 b22 b24 b26 b28 : Bool)
variable (t0 t1 t6 t7 t8 : ByteArray)
variable (r0 r4 r9 r10 r11 r12 : List (List PV))
variable (p2 p3 p4 p5 p6 p12 : PV)
variable (a0 a1 a2 a3 a4 : Nat)
variable (sg : List (List PV)) (K : KT)
end
end Go.Ev
