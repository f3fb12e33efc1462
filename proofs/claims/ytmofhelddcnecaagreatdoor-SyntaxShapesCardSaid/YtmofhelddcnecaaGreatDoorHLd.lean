/- What the evaluator comes to at some functions. -/
import Derived.Test.YtmofhelddcnecaaGreatDoorProg
import Derived.Test.YtmofhelddcnecaaGreatDoorH4
import Derived.KernelRfl
set_option linter.unusedVariables false
set_option maxRecDepth 100000
namespace Go.Ev
open Go.Ev.PV
noncomputable section
variable (q : Caller) (n m0 m4 : Nat)
variable (i0 i1 i2 i3 i4 i5 i6 i7 i8 i9 i10 i11 i12 i13 i14 i15 i16 i17 i18 i64 : Int)
variable (b1 b2 b3 b7 b8 b9 b10 b11 b12 b13 b14 b15 b16 b17 b18 b19 b20 b22 b23 : Bool)
variable (t0 t1 t2 t3 t6 t7 t8 t11 t12 t16 : ByteArray)
variable (r0 r1 r4 r5 r6 r7 r9 r10 r14 r15 r19 : List (List PV))
variable (p4 p5 p7 p9 p10 p11 p12 p13 p15 p16 p17 p18 p19 p20 p21 p24 : PV)
variable (a0 a1 : Nat)
variable (sg : List (List PV)) (K : KT)
namespace Law12_SyntaxShapes
def S0 (i0 : Int) (t1 : ByteArray) (i2 i3 : Int) (r4 : List (List PV)) (i5 : Int) (t6 : ByteArray) (i7 i8 : Int) (r9 : List (List PV)) (i10 : Int) (t11 : ByteArray) (i12 i13 : Int) (r14 : List (List PV)) (i15 : Int) (t16 : ByteArray) (i17 i18 : Int) (r19 : List (List PV)) (b20 : Bool) : List PV := .agg [.int .i64 i0, .str t1, .int .i64 i2, .int .i64 i3, .list false r4] :: .agg [.int .i64 i5, .str t6, .int .i64 i7, .int .i64 i8, .list false r9] :: .box [.int .i64 i10, .str t11, .int .i64 i12, .int .i64 i13, .list false r14] :: .box [.int .i64 i15, .str t16, .int .i64 i17, .int .i64 i18, .list false r19] :: .bool false :: .undef :: .bool b20 :: .undef :: U32 []
def K0 (q : Caller) (n : Nat) (K : KT) : Cont := (fK (En n) 7 K)
theorem cut0 : T n q 7 [1, 1] (S0 i0 t1 i2 i3 r4 i5 t6 i7 i8 r9 i10 t11 i12 i13 r14 i15 t16 i17 i18 r19 b20) sg (K0 q n K) =
  (cB q 17 [.agg [.int .i64 i10, .str t11, .int .i64 i12, .int .i64 i13, .list false r14]] sg (pan K) fun b102 sg101 => cB q 24 [.agg [.int .i64 i10, .str t11, .int .i64 i12, .int .i64 i13, .list false r14]] sg101 (pan K) fun b104 sg103 => bcond (b102 == b104) (cB q 25 [.agg [.int .i64 i10, .str t11, .int .i64 i12, .int .i64 i13, .list false r14], .agg [.int .i64 i15, .str t16, .int .i64 i17, .int .i64 i18, .list false r19]] sg103 (pan K) fun b106 sg105 => cB q 26 [.agg [.int .i64 i10, .str t11, .int .i64 i12, .int .i64 i13, .list false r14], .agg [.int .i64 i15, .str t16, .int .i64 i17, .int .i64 i18, .list false r19]] sg105 (pan K) fun b108 sg107 => bcond (b106 == b108) (cB q 25 [.agg [.int .i64 i10, .str t11, .int .i64 i12, .int .i64 i13, .list false r14], .agg [.int .i64 i10, .str t11, .int .i64 i12, .int .i64 i13, .list false r14]] sg107 (pan K) fun b110 sg109 => bcond b110 (cI q 27 [.agg [.int .i64 i10, .str t11, .int .i64 i12, .int .i64 i13, .list false r14]] sg109 (pan K) fun i112 sg111 => cI q 18 [.agg [.int .i64 i10, .str t11, .int .i64 i12, .int .i64 i13, .list false r14]] sg111 (pan K) fun i114 sg113 => bcond (i112 == i114) (cI q 28 [.agg [.int .i64 i10, .str t11, .int .i64 i12, .int .i64 i13, .list false r14]] sg113 (pan K) fun i116 sg115 => cI q 29 [.agg [.int .i64 i10, .str t11, .int .i64 i12, .int .i64 i13, .list false r14]] sg115 (pan K) fun i118 sg117 => K ⟨false, .bool (i116 == i118)⟩ sg117) (K ⟨false, .bool false⟩ sg113)) (K ⟨false, .bool false⟩ sg109)) (K ⟨false, .bool false⟩ sg107)) (K ⟨false, .bool false⟩ sg103)) := by kernel_rfl
theorem eq (a0_0 : Int) (a0_1 : ByteArray) (a0_2 a0_3 : Int) (a0_4 : List (List PV)) (a1_0 : Int) (a1_1 : ByteArray) (a1_2 a1_3 : Int) (a1_4 : List (List PV)) : B n q 7 sg [.agg [.int .i64 a0_0, .str a0_1, .int .i64 a0_2, .int .i64 a0_3, .list false a0_4], .agg [.int .i64 a1_0, .str a1_1, .int .i64 a1_2, .int .i64 a1_3, .list false a1_4]] K =
  (cB q 10 [] sg (pan K) fun b2 sg1 => bcond (!b2) (K ⟨false, .bool false⟩ sg1) (C n q 7 [1, 1] (S0 a0_0 a0_1 a0_2 a0_3 a0_4 a1_0 a1_1 a1_2 a1_3 a1_4 a0_0 a0_1 a0_2 a0_3 a0_4 a1_0 a1_1 a1_2 a1_3 a1_4 (!b2)) sg1 (K0 q n K))) := by kernel_rfl
end Law12_SyntaxShapes
end
end Go.Ev
