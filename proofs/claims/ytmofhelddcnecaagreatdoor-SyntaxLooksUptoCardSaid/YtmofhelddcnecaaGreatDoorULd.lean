/- What the evaluator comes to at some functions. -/
import Derived.Test.YtmofhelddcnecaaGreatDoorProg
import Derived.Test.YtmofhelddcnecaaGreatDoorU4
import Derived.KernelRfl
set_option linter.unusedVariables false
set_option maxRecDepth 100000
namespace Go.Ev
open Go.Ev.PV
noncomputable section
variable (q : Caller) (n m0 m4 : Nat)
variable (i0 i1 i2 i3 i4 i5 i6 i7 i8 i9 i10 i11 i12 i13 i14 i15 i16 i17 i18 i64 : Int)
variable (b1 b2 b3 b7 b8 b9 b10 b11 b12 b13 b14 b15 b16 b17 b18 b19 b20 b22 b23 : Bool)
variable (t0 t1 t2 t3 t6 t7 t8 t11 t12 t16 : ByteArray)
variable (r0 r1 r4 r5 r6 r7 r9 r10 r14 r15 r19 : List (List PV))
variable (p4 p5 p7 p9 p10 p11 p12 p13 p15 p16 p17 p18 p19 p20 p21 p24 : PV)
variable (a0 a1 : Nat)
variable (sg : List (List PV)) (K : KT)
namespace Law12_SyntaxLooks
def S0 (i0 : Int) (t1 : ByteArray) (i2 i3 : Int) (r4 : List (List PV)) (i5 i6 : Int) (t7 : ByteArray) (i8 i9 : Int) (r10 : List (List PV)) (b11 : Bool) : List PV := .agg [.int .i64 i0, .str t1, .int .i64 i2, .int .i64 i3, .list false r4] :: .int .i64 i5 :: .box [.int .i64 i6, .str t7, .int .i64 i8, .int .i64 i9, .list false r10] :: .skip :: .bool false :: .undef :: .bool b11 :: .undef :: .undef :: .skip :: U8 (U4 (U2 []))
def K0 (q : Caller) (n : Nat) (K : KT) : Cont := (fK (En n) 6 K)
def S1 (i0 : Int) (t1 : ByteArray) (i2 i3 : Int) (r4 : List (List PV)) (i5 i6 : Int) (t7 : ByteArray) (i8 i9 : Int) (r10 : List (List PV)) (b11 b12 : Bool) : List PV := .agg [.int .i64 i0, .str t1, .int .i64 i2, .int .i64 i3, .list false r4] :: .int .i64 i5 :: .box [.int .i64 i6, .str t7, .int .i64 i8, .int .i64 i9, .list false r10] :: .skip :: .bool false :: .undef :: .bool b11 :: .undef :: .undef :: .bool b12 :: U8 (U4 (U2 []))
def K1 (q : Caller) (n : Nat) (K : KT) : Cont := (fK (En n) 6 K)
theorem cut0 : T n q 6 [1, 1] (S0 i0 t1 i2 i3 r4 i5 i6 t7 i8 i9 r10 b11) sg (K0 q n K) =
  (cI q 18 [.agg [.int .i64 i6, .str t7, .int .i64 i8, .int .i64 i9, .list false r10]] sg (pan K) fun i102 sg101 => bcond (decide (i102 > 300)) (K ⟨false, .bool true⟩ sg101) (C n q 6 [1, 1, 1] (S1 i0 t1 i2 i3 r4 i5 i6 t7 i8 i9 r10 b11 (decide (i102 > 300))) sg101 (K1 q n K))) := by kernel_rfl
theorem cut1 : T n q 6 [1, 1, 1] (S1 i0 t1 i2 i3 r4 i5 i6 t7 i8 i9 r10 b11 b12) sg (K1 q n K) =
  (cP q 20 [.agg [.int .i64 i6, .str t7, .int .i64 i8, .int .i64 i9, .list false r10]] sg (pan K) fun r202 sg201 => cP q 21 [.agg [.int .i64 i6, .str t7, .int .i64 i8, .int .i64 i9, .list false r10]] sg201 (pan K) fun r204 sg203 => cB q 19 [(r202).strip, (r204).strip] sg203 (pan K) fun b206 sg205 => bcond b206 (cP q 22 [.agg [.int .i64 i6, .str t7, .int .i64 i8, .int .i64 i9, .list false r10], .int .i64 i5] sg205 (pan K) fun r208 sg207 => cP q 23 [.agg [.int .i64 i6, .str t7, .int .i64 i8, .int .i64 i9, .list false r10], .int .i64 i5] sg207 (pan K) fun r210 sg209 => cB q 19 [(r208).strip, (r210).strip] sg209 (pan K) fun b212 sg211 => K ⟨false, .bool b212⟩ sg211) (K ⟨false, .bool false⟩ sg205)) := by kernel_rfl
theorem eq (a0_0 : Int) (a0_1 : ByteArray) (a0_2 a0_3 : Int) (a0_4 : List (List PV)) (a1 : Int) : B n q 6 sg [.agg [.int .i64 a0_0, .str a0_1, .int .i64 a0_2, .int .i64 a0_3, .list false a0_4], .int .i64 a1] K =
  (cB q 10 [] sg (pan K) fun b2 sg1 => bcond (!b2) (K ⟨false, .bool false⟩ sg1) (C n q 6 [1, 1] (S0 a0_0 a0_1 a0_2 a0_3 a0_4 a1 a0_0 a0_1 a0_2 a0_3 a0_4 (!b2)) sg1 (K0 q n K))) := by kernel_rfl
end Law12_SyntaxLooks
namespace Law12_same
def S0 (r0 r1 : List (List PV)) (i2 : Int) (b3 : Bool) (p4 p5 : PV) : List PV := .list false r0 :: .list false r1 :: .skip :: .skip :: .bool false :: .int .i64 i2 :: U4 (.bool b3 :: .undef :: .undef :: .undef :: p4 :: .undef :: U8 (U2 [p5]))
def K0 (q : Caller) (n : Nat) (K : KT) : Cont := (blockK 0 (sK (En n) cutsOf q 19 [1, 1, 1] (fK (En n) 19 K)))
theorem loop0 : T n q 19 [1, 1, 0, 1, 0, 0] (S0 r0 r1 i2 b3 p4 p5) sg (lK (En n) q 19 [1, 1, 0, 1, 0, 0] (K0 q n K) m0) =
  (bcond (decide (i2 < (r0.length : Int))) (chk ((rowsOk 5 r0) && ((decide (0 ≤ i2)) && (decide (i2 < (r0.length : Int))))) (chk (decide (5 ≤ (rowAt r0 i2).length)) (chk (((((rowAt r0 i2).drop 0).take 5).map cstrip).length == 5) (chk (((nk (rowAt r0 i2) 0)).isI .i64) (chk (((nk (rowAt r0 i2) 1)).isS) (chk (((nk (rowAt r0 i2) 2)).isI .i64) (chk (((nk (rowAt r0 i2) 3)).isI .i64) (chk (((nk (rowAt r0 i2) 4)).isL) (chk ((rowsOk 5 r1) && ((decide (0 ≤ i2)) && (decide (i2 < (r1.length : Int))))) (chk (decide (5 ≤ (rowAt r1 i2).length)) (chk (((((rowAt r1 i2).drop 0).take 5).map cstrip).length == 5) (chk (((nk (rowAt r1 i2) 0)).isI .i64) (chk (((nk (rowAt r1 i2) 1)).isS) (chk (((nk (rowAt r1 i2) 2)).isI .i64) (chk (((nk (rowAt r1 i2) 3)).isI .i64) (chk (((nk (rowAt r1 i2) 4)).isL) (cB q 13 [.agg [.int .i64 (((nk (rowAt r0 i2) 0)).toI), .str (((nk (rowAt r0 i2) 1)).toS), .int .i64 (((nk (rowAt r0 i2) 2)).toI), .int .i64 (((nk (rowAt r0 i2) 3)).toI), .list false (((nk (rowAt r0 i2) 4)).rows)], .agg [.int .i64 (((nk (rowAt r1 i2) 0)).toI), .str (((nk (rowAt r1 i2) 1)).toS), .int .i64 (((nk (rowAt r1 i2) 2)).toI), .int .i64 (((nk (rowAt r1 i2) 3)).toI), .list false (((nk (rowAt r1 i2) 4)).rows)]] sg (pan K) fun b102 sg101 => bcond (!b102) (K ⟨false, .bool false⟩ sg101) (L n q 19 [1, 1, 0, 1, 0, 0] (S0 r0 r1 (IntKind.i64.wrap (i2 + 1)) b3 (PV.bool (decide (i2 < (r0.length : Int)))) (PV.bool (!b102))) sg101 (K0 q n K) m0)))))))))))))))))) (K ⟨false, .bool true⟩ sg)) := by kernel_rfl
theorem eq (a0 a1 : List (List PV)) : B n q 19 sg [.list false a0, .list false a1] K =
  (bcond ((a0.length : Int) != (a1.length : Int)) (K ⟨false, .bool false⟩ sg) (L n q 19 [1, 1, 0, 1, 0, 0] (S0 a0 a1 0 ((a0.length : Int) != (a1.length : Int)) PV.skip PV.skip) sg (K0 q n K) n)) := by kernel_rfl
end Law12_same
end
end Go.Ev
