/- What the evaluator comes to at some functions. -/
import Derived.Test.YtmofhelddcnecaaGreatDoorProg
import Derived.Test.YtmofhelddcnecaaGreatDoorB4
import Derived.KernelRfl
set_option linter.unusedVariables false
set_option maxRecDepth 100000
namespace Go.Ev
open Go.Ev.PV
noncomputable section
variable (q : Caller) (n m0 m2 m4 m5 : Nat)
variable (i0 i1 i2 i3 i4 i5 i6 i7 i8 i9 i10 i11 i12 i13 i14 i16 i17 i20 i21 i64 : Int)
variable (b1 b2 b3 b4 b5 b6 b7 b8 b9 b10 b11 b12 b13 b14 b15 b16 b17 b18 b19 b22 : Bool)
variable (t1 t2 t3 t4 t5 t7 t8 t12 : ByteArray)
variable (r2 r4 r5 r6 r7 r8 r10 r11 r13 r15 r19 : List (List PV))
variable (p3 p4 p5 p6 p7 p8 p9 p10 p11 p12 p13 p18 p19 p23 : PV)
variable (a0 a1 a2 a3 a4 : Nat)
variable (sg : List (List PV)) (K : KT)
namespace syntax_below
def S0 (i0 : Int) (t1 : ByteArray) (i2 i3 : Int) (r4 : List (List PV)) (i5 i6 : Int) (t7 : ByteArray) (i8 i9 : Int) (r10 : List (List PV)) (p11 p12 p13 : PV) (b14 : Bool) (r15 : List (List PV)) (i16 i17 : Int) (p18 p19 : PV) : List PV := .agg [.int .i64 i0, .str t1, .int .i64 i2, .int .i64 i3, .list false r4] :: .int .i64 i5 :: .box [.int .i64 i6, .str t7, .int .i64 i8, .int .i64 i9, .list false r10] :: .skip :: .int .i64 0 :: .bool false :: .skip :: p11 :: p12 :: p13 :: .undef :: .bool b14 :: .undef :: .undef :: .undef :: .list false r15 :: .int .i64 i16 :: .int .i64 i17 :: p18 :: .undef :: U8 [p19, .undef, .undef]
def K0 (q : Caller) (n : Nat) (K : KT) : Cont := (blockK 0 (sK (En n) cutsOf q 57 [1, 1, 1] (fK (En n) 57 K)))
def S1 (i0 : Int) (t1 : ByteArray) (i2 i3 : Int) (r4 : List (List PV)) (i5 i6 : Int) (t7 : ByteArray) (i8 i9 : Int) (r10 : List (List PV)) (i11 : Int) (t12 : ByteArray) (i13 i14 : Int) (r15 : List (List PV)) (i16 : Int) (b17 b18 : Bool) (r19 : List (List PV)) (i20 i21 : Int) (b22 : Bool) (p23 : PV) : List PV := .agg [.int .i64 i0, .str t1, .int .i64 i2, .int .i64 i3, .list false r4] :: .int .i64 i5 :: .box [.int .i64 i6, .str t7, .int .i64 i8, .int .i64 i9, .list false r10] :: .skip :: .int .i64 0 :: .bool false :: .skip :: .box [.int .i64 i11, .str t12, .int .i64 i13, .int .i64 i14, .list false r15] :: .int .i64 i16 :: .bool b17 :: .undef :: .bool b18 :: .undef :: .undef :: .undef :: .list false r19 :: .int .i64 i20 :: .int .i64 i21 :: .bool b22 :: .undef :: U8 [p23, .undef, .undef]
def K1 (q : Caller) (n m0 : Nat) (K : KT) : Cont := (blockK 1 (sK (En n) cutsOf q 57 [1, 1, 0, 1, 0, 0, 1, 1, 1] (lK (En n) q 57 [1, 1, 0, 1, 0, 0] (blockK 0 (sK (En n) cutsOf q 57 [1, 1, 1] (fK (En n) 57 K))) m0)))
theorem loop0 : T n q 57 [1, 1, 0, 1, 0, 0] (S0 i0 t1 i2 i3 r4 i5 i6 t7 i8 i9 r10 p11 p12 p13 b14 r15 i16 i17 p18 p19) sg (lK (En n) q 57 [1, 1, 0, 1, 0, 0] (K0 q n K) m0) =
  (bcond (decide (i17 < i16)) (chk ((rowsOk 5 r15) && ((decide (0 ≤ i17)) && (decide (i17 < (r15.length : Int))))) (chk (decide (5 ≤ (rowAt r15 i17).length)) (chk (((((rowAt r15 i17).drop 0).take 5).map cstrip).length == 5) (chk (((nk (rowAt r15 i17) 0)).isI .i64) (chk (((nk (rowAt r15 i17) 1)).isS) (chk (((nk (rowAt r15 i17) 2)).isI .i64) (chk (((nk (rowAt r15 i17) 3)).isI .i64) (chk (((nk (rowAt r15 i17) 4)).isL) (chk (!(isBaddr 7 p11 || (isBaddr 7 p12 || (isBaddr 7 p13 || (isBaddr 7 p19 || false))))) (cP q 57 [.agg [.int .i64 (((nk (rowAt r15 i17) 0)).toI), .str (((nk (rowAt r15 i17) 1)).toS), .int .i64 (((nk (rowAt r15 i17) 2)).toI), .int .i64 (((nk (rowAt r15 i17) 3)).toI), .list false (((nk (rowAt r15 i17) 4)).rows)], .int .i64 (IntKind.i64.wrap (i5 - 1))] sg (pan K) fun r102 sg101 => exV (((r102).strip).strip) 0 fun v103 => chk ((v103).isI .i64) (exV (((r102).strip).strip) 1 fun v104 => chk ((v104).isB) (C n q 57 [1, 1, 0, 1, 0, 0, 1, 1, 0, 0, 1, 1] (S1 i0 t1 i2 i3 r4 i5 i6 t7 i8 i9 r10 (((nk (rowAt r15 i17) 0)).toI) (((nk (rowAt r15 i17) 1)).toS) (((nk (rowAt r15 i17) 2)).toI) (((nk (rowAt r15 i17) 3)).toI) (((nk (rowAt r15 i17) 4)).rows) ((v103).toI) ((v104).toB) b14 r15 i16 i17 (decide (i17 < i16)) p19) sg101 (K1 q n m0 K))))))))))))) (K ⟨false, .tup [.int .i64 0, .bool false]⟩ sg)) := by kernel_rfl
theorem cut1 : T n q 57 [1, 1, 0, 1, 0, 0, 1, 1, 0, 0, 1, 1] (S1 i0 t1 i2 i3 r4 i5 i6 t7 i8 i9 r10 i11 t12 i13 i14 r15 i16 b17 b18 r19 i20 i21 b22 p23) sg (K1 q n m0 K) =
  (bcond b17 (K ⟨false, .tup [.int .i64 i16, .bool true]⟩ sg) (L n q 57 [1, 1, 0, 1, 0, 0] (S0 i0 t1 i2 i3 r4 i5 i6 t7 i8 i9 r10 (PV.box [.int .i64 i11, .str t12, .int .i64 i13, .int .i64 i14, .list false r15]) (PV.int .i64 i16) (PV.bool b17) b18 r19 i20 (IntKind.i64.wrap (i21 + 1)) (PV.bool b22) (PV.bool b17)) sg (K0 q n K) m0)) := by kernel_rfl
theorem eq (a0_0 : Int) (a0_1 : ByteArray) (a0_2 a0_3 : Int) (a0_4 : List (List PV)) (a1 : Int) : B n q 57 sg [.agg [.int .i64 a0_0, .str a0_1, .int .i64 a0_2, .int .i64 a0_3, .list false a0_4], .int .i64 a1] K =
  (bcond (a1 == 0) (K ⟨false, .tup [.int .i64 a0_2, .bool true]⟩ sg) (L n q 57 [1, 1, 0, 1, 0, 0] (S0 a0_0 a0_1 a0_2 a0_3 a0_4 a1 a0_0 a0_1 a0_2 a0_3 a0_4 PV.skip PV.skip PV.skip (a1 == 0) a0_4 (a0_4.length : Int) 0 PV.skip PV.skip) sg (K0 q n K) n)) := by kernel_rfl
end syntax_below
end
end Go.Ev
