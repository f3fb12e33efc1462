/- What the evaluator comes to at some functions. -/
import Derived.Test.YtmofhelddcnecaaGreatDoorProg
import Derived.Test.YtmofhelddcnecaaGreatDoorH4
import Derived.KernelRfl
set_option linter.unusedVariables false
set_option maxRecDepth 100000
namespace Go.Ev
open Go.Ev.PV
noncomputable section
variable (q : Caller) (n m0 m1 : Nat)
variable (i1 i2 i3 i4 i5 i6 i7 i8 i10 i12 i64 : Int)
variable (b1 b2 b3 b4 b5 b6 b7 b8 b9 b10 : Bool)
variable (t0 t3 t4 t5 : ByteArray)
variable (r1 r2 : List (List PV))
variable (p2 p3 p4 p5 p6 p7 p8 p9 p10 p11 : PV)
variable (a0 a1 a2 : Nat)
variable (sg : List (List PV)) (K : KT)
namespace R11_Keyword
def S0 (t0 : ByteArray) (r1 : List (List PV)) (i2 : Int) (p3 p4 : PV) : List PV := .str t0 :: .skip :: .bool false :: .list true r1 :: .int .i64 i2 :: U4 (p3 :: .undef :: U4 (U2 [p4]))
def K0 (q : Caller) (n : Nat) (K : KT) : Cont := (blockK 0 (sK (En n) cutsOf q 101 [1, 1, 1] (fK (En n) 101 K)))
theorem loop0 : T n q 101 [1, 1, 0, 1, 0, 0] (S0 t0 r1 i2 p3 p4) sg (lK (En n) q 101 [1, 1, 0, 1, 0, 0] (K0 q n K) m0) =
  (bcond (decide (i2 < (r1.length : Int))) (chk ((rowsOk 1 r1) && ((decide (0 ≤ i2)) && (decide (i2 < (r1.length : Int))))) (chk (decide (1 ≤ (rowAt r1 i2).length)) (chk (((((rowAt r1 i2).getD 0 .undef)).cstrip).isS) (bcond ((((((rowAt r1 i2).getD 0 .undef)).cstrip).toS).toList == t0.toList) (K ⟨false, .bool true⟩ sg) (L n q 101 [1, 1, 0, 1, 0, 0] (S0 t0 r1 (IntKind.i64.wrap (i2 + 1)) (PV.bool (decide (i2 < (r1.length : Int)))) (PV.bool ((((((rowAt r1 i2).getD 0 .undef)).cstrip).toS).toList == t0.toList))) sg (K0 q n K) m0))))) (K ⟨false, .bool false⟩ sg)) := by kernel_rfl
theorem eq (a0 : ByteArray) : B n q 101 sg [.str a0] K =
  (L n q 101 [1, 1, 0, 1, 0, 0] (S0 a0 ([[.str (⟨#[105, 109, 112, 111, 114, 116]⟩ : ByteArray)], [.str (⟨#[99, 108, 97, 115, 115]⟩ : ByteArray)], [.str (⟨#[105, 110, 116, 101, 114, 102, 97, 99, 101]⟩ : ByteArray)], [.str (⟨#[101, 120, 116, 101, 110, 100, 115]⟩ : ByteArray)], [.str (⟨#[105, 109, 112, 108, 101, 109, 101, 110, 116, 115]⟩ : ByteArray)], [.str (⟨#[102, 117, 110, 99]⟩ : ByteArray)], [.str (⟨#[118, 97, 114]⟩ : ByteArray)], [.str (⟨#[114, 101, 116, 117, 114, 110]⟩ : ByteArray)], [.str (⟨#[105, 102]⟩ : ByteArray)], [.str (⟨#[101, 108, 115, 101]⟩ : ByteArray)], [.str (⟨#[119, 104, 105, 108, 101]⟩ : ByteArray)], [.str (⟨#[110, 101, 119]⟩ : ByteArray)], [.str (⟨#[116, 114, 117, 101]⟩ : ByteArray)], [.str (⟨#[102, 97, 108, 115, 101]⟩ : ByteArray)], [.str (⟨#[110, 117, 108, 108]⟩ : ByteArray)], [.str (⟨#[116, 104, 105, 115]⟩ : ByteArray)]]) 0 PV.skip PV.skip) sg (K0 q n K) n) := by kernel_rfl
end R11_Keyword
end
end Go.Ev
