/- What the evaluator comes to at some functions. -/
import Derived.Test.YtmofhelddcnecaaGreatDoorProg
import Derived.Test.YtmofhelddcnecaaGreatDoorB4
import Derived.KernelRfl
set_option linter.unusedVariables false
set_option maxRecDepth 100000
namespace Go.Ev
open Go.Ev.PV
noncomputable section
variable (q : Caller) (n m0 m1 m3 m4 m5 m8 : Nat)
variable (i0 i1 i2 i3 i4 i5 i6 i8 i9 i10 i11 i12 i13 i64 : Int)
variable (b2 b3 b5 b6 b7 b8 b9 b10 b11 b12 b13 b14 b15 b16 b17 b19 : Bool)
variable (t1 t2 t3 t4 t7 t8 t11 : ByteArray)
variable (r1 r2 r4 r6 r7 r8 r9 r10 r14 : List (List PV))
variable (p2 p3 p4 p7 p8 p9 p10 p11 p12 p13 p14 p15 p16 p18 : PV)
variable (a0 a1 a2 a3 a4 a5 : Nat)
variable (sg : List (List PV)) (K : KT)
end
end Go.Ev
