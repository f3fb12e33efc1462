/- What the evaluator comes to at some functions. -/
import Derived.Test.YtmofhelddcnecaaGreatDoorProg
import Derived.Test.YtmofhelddcnecaaGreatDoorB4
import Derived.KernelRfl
set_option linter.unusedVariables false
set_option maxRecDepth 100000
namespace Go.Ev
open Go.Ev.PV
noncomputable section
variable (q : Caller) (n m0 m1 m2 m3 : Nat)
variable (i0 i2 i3 i5 i6 i7 i8 i9 i10 i11 i12 i13 i14 i15 i17 i18 i20 i22 i23 i64 : Int)
variable (b11 b14 b15 b16 b17 b20 b21 : Bool)
variable (t1 t6 t7 t11 t16 : ByteArray)
variable (r4 r9 r10 r11 r12 r14 r19 : List (List PV))
variable (p11 p12 p13 p14 p15 p16 p18 p20 p22 p23 p24 p25 : PV)
variable (a1 : Nat)
variable (sg : List (List PV)) (K : KT)
namespace syntax_Same
def S0 (i0 : Int) (t1 : ByteArray) (i2 i3 : Int) (r4 : List (List PV)) (i5 : Int) (t6 : ByteArray) (i7 i8 : Int) (r9 : List (List PV)) (i10 : Int) (t11 : ByteArray) (i12 i13 : Int) (r14 : List (List PV)) (i15 : Int) (t16 : ByteArray) (i17 i18 : Int) (r19 : List (List PV)) (b20 : Bool) : List PV := .agg [.int .i64 i0, .str t1, .int .i64 i2, .int .i64 i3, .list false r4] :: .agg [.int .i64 i5, .str t6, .int .i64 i7, .int .i64 i8, .list false r9] :: .box [.int .i64 i10, .str t11, .int .i64 i12, .int .i64 i13, .list false r14] :: .box [.int .i64 i15, .str t16, .int .i64 i17, .int .i64 i18, .list false r19] :: .bool false :: .skip :: U16 (U4 (.bool b20 :: .undef :: .undef :: .skip :: .skip :: .skip :: U8 (U4 [.skip, .undef])))
def K0 (q : Caller) (n : Nat) (K : KT) : Cont := (fK (En n) 25 K)
def S1 (i0 : Int) (t1 : ByteArray) (i2 i3 : Int) (r4 : List (List PV)) (i5 : Int) (t6 : ByteArray) (i7 i8 : Int) (r9 : List (List PV)) (i10 : Int) (t11 : ByteArray) (i12 i13 : Int) (r14 : List (List PV)) (i15 : Int) (t16 : ByteArray) (i17 i18 : Int) (r19 : List (List PV)) (p20 : PV) (b21 : Bool) (i22 i23 : Int) (p24 p25 : PV) : List PV := .agg [.int .i64 i0, .str t1, .int .i64 i2, .int .i64 i3, .list false r4] :: .agg [.int .i64 i5, .str t6, .int .i64 i7, .int .i64 i8, .list false r9] :: .box [.int .i64 i10, .str t11, .int .i64 i12, .int .i64 i13, .list false r14] :: .box [.int .i64 i15, .str t16, .int .i64 i17, .int .i64 i18, .list false r19] :: .bool false :: p20 :: U16 (U4 (.bool b21 :: .undef :: .undef :: .int .i64 i22 :: .int .i64 i23 :: p24 :: U8 (U4 [p25, .undef])))
def K1 (q : Caller) (n : Nat) (K : KT) : Cont := (blockK 0 (sK (En n) cutsOf q 25 [1, 1, 1] (fK (En n) 25 K)))
theorem cut0 : T n q 25 [1, 1] (S0 i0 t1 i2 i3 r4 i5 t6 i7 i8 r9 i10 t11 i12 i13 r14 i15 t16 i17 i18 r19 b20) sg (K0 q n K) =
  (L n q 25 [1, 1, 0, 1, 0, 0] (S1 i0 t1 i2 i3 r4 i5 t6 i7 i8 r9 i10 t11 i12 i13 r14 i15 t16 i17 i18 r19 PV.skip b20 (r14.length : Int) 0 PV.skip PV.skip) sg (K1 q n K) n) := by kernel_rfl
theorem loop1 : T n q 25 [1, 1, 0, 1, 0, 0] (S1 i0 t1 i2 i3 r4 i5 t6 i7 i8 r9 i10 t11 i12 i13 r14 i15 t16 i17 i18 r19 p20 b21 i22 i23 p24 p25) sg (lK (En n) q 25 [1, 1, 0, 1, 0, 0] (K1 q n K) m1) =
  (bcond (decide (i23 < i22)) (chk ((rowsOk 5 r14) && ((decide (0 ≤ i23)) && (decide (i23 < (r14.length : Int))))) (chk (decide (5 ≤ (rowAt r14 i23).length)) (chk (((((rowAt r14 i23).drop 0).take 5).map cstrip).length == 5) (chk (((nk (rowAt r14 i23) 0)).isI .i64) (chk (((nk (rowAt r14 i23) 1)).isS) (chk (((nk (rowAt r14 i23) 2)).isI .i64) (chk (((nk (rowAt r14 i23) 3)).isI .i64) (chk (((nk (rowAt r14 i23) 4)).isL) (chk ((rowsOk 5 r19) && ((decide (0 ≤ i23)) && (decide (i23 < (r19.length : Int))))) (chk (decide (5 ≤ (rowAt r19 i23).length)) (chk (((((rowAt r19 i23).drop 0).take 5).map cstrip).length == 5) (chk (((nk (rowAt r19 i23) 0)).isI .i64) (chk (((nk (rowAt r19 i23) 1)).isS) (chk (((nk (rowAt r19 i23) 2)).isI .i64) (chk (((nk (rowAt r19 i23) 3)).isI .i64) (chk (((nk (rowAt r19 i23) 4)).isL) (cB q 25 [.agg [.int .i64 (((nk (rowAt r14 i23) 0)).toI), .str (((nk (rowAt r14 i23) 1)).toS), .int .i64 (((nk (rowAt r14 i23) 2)).toI), .int .i64 (((nk (rowAt r14 i23) 3)).toI), .list false (((nk (rowAt r14 i23) 4)).rows)], .agg [.int .i64 (((nk (rowAt r19 i23) 0)).toI), .str (((nk (rowAt r19 i23) 1)).toS), .int .i64 (((nk (rowAt r19 i23) 2)).toI), .int .i64 (((nk (rowAt r19 i23) 3)).toI), .list false (((nk (rowAt r19 i23) 4)).rows)]] sg (pan K) fun b202 sg201 => bcond (!b202) (K ⟨false, .bool false⟩ sg201) (L n q 25 [1, 1, 0, 1, 0, 0] (S1 i0 t1 i2 i3 r4 i5 t6 i7 i8 r9 i10 t11 i12 i13 r14 i15 t16 i17 i18 r19 (PV.int .i64 i23) b21 i22 (IntKind.i64.wrap (i23 + 1)) (PV.bool (decide (i23 < i22))) (PV.bool (!b202))) sg201 (K1 q n K) m1)))))))))))))))))) (K ⟨false, .bool true⟩ sg)) := by kernel_rfl
theorem eq (a0_0 : Int) (a0_1 : ByteArray) (a0_2 a0_3 : Int) (a0_4 : List (List PV)) (a1_0 : Int) (a1_1 : ByteArray) (a1_2 a1_3 : Int) (a1_4 : List (List PV)) : B n q 25 sg [.agg [.int .i64 a0_0, .str a0_1, .int .i64 a0_2, .int .i64 a0_3, .list false a0_4], .agg [.int .i64 a1_0, .str a1_1, .int .i64 a1_2, .int .i64 a1_3, .list false a1_4]] K =
  (bcond (a0_0 != a1_0) (K ⟨false, .bool false⟩ sg) (bcond (!(a0_1.toList == a1_1.toList)) (K ⟨false, .bool false⟩ sg) (bcond ((a0_4.length : Int) != (a1_4.length : Int)) (K ⟨false, .bool false⟩ sg) (C n q 25 [1, 1] (S0 a0_0 a0_1 a0_2 a0_3 a0_4 a1_0 a1_1 a1_2 a1_3 a1_4 a0_0 a0_1 a0_2 a0_3 a0_4 a1_0 a1_1 a1_2 a1_3 a1_4 ((a0_4.length : Int) != (a1_4.length : Int))) sg (K0 q n K))))) := by kernel_rfl
end syntax_Same
end
end Go.Ev
