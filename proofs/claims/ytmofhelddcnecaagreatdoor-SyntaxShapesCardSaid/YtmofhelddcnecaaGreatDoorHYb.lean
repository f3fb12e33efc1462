/- What the evaluator comes to at some functions. -/
import Derived.Test.YtmofhelddcnecaaGreatDoorProg
import Derived.Test.YtmofhelddcnecaaGreatDoorH4
import Derived.KernelRfl
set_option linter.unusedVariables false
set_option maxRecDepth 100000
namespace Go.Ev
open Go.Ev.PV
noncomputable section
variable (q : Caller) (n m0 : Nat)
variable (i1 i2 i3 i4 i5 i6 i7 i8 i9 i11 i14 i64 : Int)
variable (b1 b2 b3 b4 b5 b6 b7 b8 b9 b10 b11 b12 b13 b14 b15 : Bool)
variable (t0 t1 t2 t3 t4 t5 t6 t7 : ByteArray)
variable (r1 r2 r4 r5 r6 r8 r9 r10 r12 : List (List PV))
variable (p2 p3 p5 p8 p9 p13 p14 : PV)
variable (a0 a1 a2 a4 : Nat)
variable (sg : List (List PV)) (K : KT)
namespace R12_constant
theorem eq (a0 : ByteArray) : B n q 161 sg [.str a0] K =
  (bcond (a0.toList == (⟨#[116, 114, 117, 101]⟩ : ByteArray).toList) (K ⟨false, .bool true⟩ sg) (bcond (a0.toList == (⟨#[102, 97, 108, 115, 101]⟩ : ByteArray).toList) (K ⟨false, .bool true⟩ sg) (bcond (a0.toList == (⟨#[110, 117, 108, 108]⟩ : ByteArray).toList) (K ⟨false, .bool true⟩ sg) (K ⟨false, .bool (a0.toList == (⟨#[116, 104, 105, 115]⟩ : ByteArray).toList)⟩ sg)))) := by kernel_rfl
end R12_constant
end
end Go.Ev
