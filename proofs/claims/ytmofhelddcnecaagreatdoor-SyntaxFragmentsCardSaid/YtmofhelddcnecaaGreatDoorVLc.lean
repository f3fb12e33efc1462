/- What the evaluator comes to at some functions. -/
import Derived.Test.YtmofhelddcnecaaGreatDoorProg
import Derived.Test.YtmofhelddcnecaaGreatDoorV4
import Derived.KernelRfl
set_option linter.unusedVariables false
set_option maxRecDepth 100000
namespace Go.Ev
open Go.Ev.PV
noncomputable section
variable (q : Caller) (n  : Nat)
variable (i0 i1 i2 i3 i4 i5 i6 i7 i8 i9 i10 i11 i12 i13 i14 i15 i64 : Int)
variable (b1 b2 b8 b9 b10 b15 b16 b17 : Bool)
variable (t0 t1 t2 t3 t9 t10 : ByteArray)
variable (r5 r6 r12 r13 : List (List PV))
variable (a0 a1 : Nat)
variable (sg : List (List PV)) (K : KT)
namespace Law12_SyntaxModules
def S0 (t0 : ByteArray) (b1 : Bool) : List PV := .str t0 :: .skip :: .bool false :: .skip :: .skip :: .skip :: .skip :: .skip :: .skip :: .undef :: .bool b1 :: .undef :: .undef :: .skip :: .undef :: U16 (U8 [])
def K0 (q : Caller) (n : Nat) (K : KT) : Cont := (fK (En n) 3 K)
def S1 (t0 : ByteArray) (i1 : Int) (t2 : ByteArray) (i3 i4 : Int) (r5 : List (List PV)) (i6 i7 : Int) (b8 b9 : Bool) : List PV := .str t0 :: .skip :: .bool false :: .box [.int .i64 i1, .str t2, .int .i64 i3, .int .i64 i4, .list false r5] :: .int .i64 i6 :: .int .i64 i7 :: .skip :: .skip :: .skip :: .undef :: .bool b8 :: .undef :: .undef :: .bool b9 :: .undef :: U16 (U8 [])
def K1 (q : Caller) (n : Nat) (K : KT) : Cont := (fK (En n) 3 K)
def S2 (t0 : ByteArray) (i1 : Int) (t2 : ByteArray) (i3 i4 : Int) (r5 : List (List PV)) (i6 i7 i8 : Int) (t9 : ByteArray) (i10 i11 : Int) (r12 : List (List PV)) (i13 i14 : Int) (b15 b16 : Bool) : List PV := .str t0 :: .skip :: .bool false :: .box [.int .i64 i1, .str t2, .int .i64 i3, .int .i64 i4, .list false r5] :: .int .i64 i6 :: .int .i64 i7 :: .box [.int .i64 i8, .str t9, .int .i64 i10, .int .i64 i11, .list false r12] :: .int .i64 i13 :: .int .i64 i14 :: .undef :: .bool b15 :: .undef :: .undef :: .bool b16 :: .undef :: U16 (U8 [])
def K2 (q : Caller) (n : Nat) (K : KT) : Cont := (fK (En n) 3 K)
theorem cut0 : T n q 3 [1, 1] (S0 t0 b1) sg (K0 q n K) =
  (bcond (decide ((t0.size : Int) > 2000)) (K ⟨false, .bool true⟩ sg) (cP q 11 [.str t0] sg (pan K) fun r102 sg101 => exV (((r102).strip).strip) 0 fun v103 => chk ((v103).isAgg && (((v103).aggC).length == 5)) (chk (((((v103).aggC).getD 0 .undef)).isI .i64) (chk (((((v103).aggC).getD 1 .undef)).isS) (chk (((((v103).aggC).getD 2 .undef)).isI .i64) (chk (((((v103).aggC).getD 3 .undef)).isI .i64) (chk (((((v103).aggC).getD 4 .undef)).isL) (exV (((r102).strip).strip) 1 fun v104 => chk ((v104).isI .i64) (exV (((r102).strip).strip) 2 fun v105 => chk ((v105).isI .i64) (chk (!(isBaddr 3 ((r102).strip) || (isBaddr 3 r102 || false))) (C n q 3 [1, 1, 1, 1] (S1 t0 (((((v103).aggC).getD 0 .undef)).toI) (((((v103).aggC).getD 1 .undef)).toS) (((((v103).aggC).getD 2 .undef)).toI) (((((v103).aggC).getD 3 .undef)).toI) (((((v103).aggC).getD 4 .undef)).rows) ((v104).toI) ((v105).toI) b1 (decide ((t0.size : Int) > 2000))) sg101 (K1 q n K)))))))))))) := by kernel_rfl
theorem cut1 : T n q 3 [1, 1, 1, 1] (S1 t0 i1 t2 i3 i4 r5 i6 i7 b8 b9) sg (K1 q n K) =
  (cP q 12 [.str t0] sg (pan K) fun r202 sg201 => exV (((r202).strip).strip) 0 fun v203 => chk ((v203).isAgg && (((v203).aggC).length == 5)) (chk (((((v203).aggC).getD 0 .undef)).isI .i64) (chk (((((v203).aggC).getD 1 .undef)).isS) (chk (((((v203).aggC).getD 2 .undef)).isI .i64) (chk (((((v203).aggC).getD 3 .undef)).isI .i64) (chk (((((v203).aggC).getD 4 .undef)).isL) (exV (((r202).strip).strip) 1 fun v204 => chk ((v204).isI .i64) (exV (((r202).strip).strip) 2 fun v205 => chk ((v205).isI .i64) (chk (!(isBaddr 6 ((r202).strip) || (isBaddr 6 r202 || false))) (C n q 3 [1, 1, 1, 1, 1] (S2 t0 i1 t2 i3 i4 r5 i6 i7 (((((v203).aggC).getD 0 .undef)).toI) (((((v203).aggC).getD 1 .undef)).toS) (((((v203).aggC).getD 2 .undef)).toI) (((((v203).aggC).getD 3 .undef)).toI) (((((v203).aggC).getD 4 .undef)).rows) ((v204).toI) ((v205).toI) b8 b9) sg201 (K2 q n K))))))))))) := by kernel_rfl
theorem cut2 : T n q 3 [1, 1, 1, 1, 1] (S2 t0 i1 t2 i3 i4 r5 i6 i7 i8 t9 i10 i11 r12 i13 i14 b15 b16) sg (K2 q n K) =
  (bcond (i6 == i13) (bcond (i7 == i14) (cB q 13 [.agg [.int .i64 i1, .str t2, .int .i64 i3, .int .i64 i4, .list false r5], .agg [.int .i64 i8, .str t9, .int .i64 i10, .int .i64 i11, .list false r12]] sg (pan K) fun b302 sg301 => K ⟨false, .bool b302⟩ sg301) (K ⟨false, .bool false⟩ sg)) (K ⟨false, .bool false⟩ sg)) := by kernel_rfl
theorem eq (a0 : ByteArray) : B n q 3 sg [.str a0] K =
  (cB q 10 [] sg (pan K) fun b2 sg1 => bcond (!b2) (K ⟨false, .bool false⟩ sg1) (C n q 3 [1, 1] (S0 a0 (!b2)) sg1 (K0 q n K))) := by kernel_rfl
end Law12_SyntaxModules
namespace Law12_SyntaxFragments
def S0 (i0 : Int) (t1 : ByteArray) (b2 : Bool) : List PV := .int .i64 i0 :: .str t1 :: .skip :: .skip :: .bool false :: .skip :: .skip :: .skip :: .skip :: .skip :: .skip :: .undef :: .bool b2 :: .undef :: .undef :: .skip :: .undef :: U16 (U8 (U2 []))
def K0 (q : Caller) (n : Nat) (K : KT) : Cont := (fK (En n) 4 K)
def S1 (i0 : Int) (t1 : ByteArray) (i2 : Int) (t3 : ByteArray) (i4 i5 : Int) (r6 : List (List PV)) (i7 i8 : Int) (b9 b10 : Bool) : List PV := .int .i64 i0 :: .str t1 :: .skip :: .skip :: .bool false :: .box [.int .i64 i2, .str t3, .int .i64 i4, .int .i64 i5, .list false r6] :: .int .i64 i7 :: .int .i64 i8 :: .skip :: .skip :: .skip :: .undef :: .bool b9 :: .undef :: .undef :: .bool b10 :: .undef :: U16 (U8 (U2 []))
def K1 (q : Caller) (n : Nat) (K : KT) : Cont := (fK (En n) 4 K)
def S2 (i0 : Int) (t1 : ByteArray) (i2 : Int) (t3 : ByteArray) (i4 i5 : Int) (r6 : List (List PV)) (i7 i8 i9 : Int) (t10 : ByteArray) (i11 i12 : Int) (r13 : List (List PV)) (i14 i15 : Int) (b16 b17 : Bool) : List PV := .int .i64 i0 :: .str t1 :: .skip :: .skip :: .bool false :: .box [.int .i64 i2, .str t3, .int .i64 i4, .int .i64 i5, .list false r6] :: .int .i64 i7 :: .int .i64 i8 :: .box [.int .i64 i9, .str t10, .int .i64 i11, .int .i64 i12, .list false r13] :: .int .i64 i14 :: .int .i64 i15 :: .undef :: .bool b16 :: .undef :: .undef :: .bool b17 :: .undef :: U16 (U8 (U2 []))
def K2 (q : Caller) (n : Nat) (K : KT) : Cont := (fK (En n) 4 K)
theorem cut0 : T n q 4 [1, 1] (S0 i0 t1 b2) sg (K0 q n K) =
  (bcond (decide ((t1.size : Int) > 2000)) (K ⟨false, .bool true⟩ sg) (cP q 14 [.int .i64 i0, .str t1] sg (pan K) fun r102 sg101 => exV (((r102).strip).strip) 0 fun v103 => chk ((v103).isAgg && (((v103).aggC).length == 5)) (chk (((((v103).aggC).getD 0 .undef)).isI .i64) (chk (((((v103).aggC).getD 1 .undef)).isS) (chk (((((v103).aggC).getD 2 .undef)).isI .i64) (chk (((((v103).aggC).getD 3 .undef)).isI .i64) (chk (((((v103).aggC).getD 4 .undef)).isL) (exV (((r102).strip).strip) 1 fun v104 => chk ((v104).isI .i64) (exV (((r102).strip).strip) 2 fun v105 => chk ((v105).isI .i64) (chk (!(isBaddr 5 ((r102).strip) || (isBaddr 5 r102 || false))) (C n q 4 [1, 1, 1, 1] (S1 i0 t1 (((((v103).aggC).getD 0 .undef)).toI) (((((v103).aggC).getD 1 .undef)).toS) (((((v103).aggC).getD 2 .undef)).toI) (((((v103).aggC).getD 3 .undef)).toI) (((((v103).aggC).getD 4 .undef)).rows) ((v104).toI) ((v105).toI) b2 (decide ((t1.size : Int) > 2000))) sg101 (K1 q n K)))))))))))) := by kernel_rfl
theorem cut1 : T n q 4 [1, 1, 1, 1] (S1 i0 t1 i2 t3 i4 i5 r6 i7 i8 b9 b10) sg (K1 q n K) =
  (cP q 15 [.int .i64 i0, .str t1] sg (pan K) fun r202 sg201 => exV (((r202).strip).strip) 0 fun v203 => chk ((v203).isAgg && (((v203).aggC).length == 5)) (chk (((((v203).aggC).getD 0 .undef)).isI .i64) (chk (((((v203).aggC).getD 1 .undef)).isS) (chk (((((v203).aggC).getD 2 .undef)).isI .i64) (chk (((((v203).aggC).getD 3 .undef)).isI .i64) (chk (((((v203).aggC).getD 4 .undef)).isL) (exV (((r202).strip).strip) 1 fun v204 => chk ((v204).isI .i64) (exV (((r202).strip).strip) 2 fun v205 => chk ((v205).isI .i64) (chk (!(isBaddr 8 ((r202).strip) || (isBaddr 8 r202 || false))) (C n q 4 [1, 1, 1, 1, 1] (S2 i0 t1 i2 t3 i4 i5 r6 i7 i8 (((((v203).aggC).getD 0 .undef)).toI) (((((v203).aggC).getD 1 .undef)).toS) (((((v203).aggC).getD 2 .undef)).toI) (((((v203).aggC).getD 3 .undef)).toI) (((((v203).aggC).getD 4 .undef)).rows) ((v204).toI) ((v205).toI) b9 b10) sg201 (K2 q n K))))))))))) := by kernel_rfl
theorem cut2 : T n q 4 [1, 1, 1, 1, 1] (S2 i0 t1 i2 t3 i4 i5 r6 i7 i8 i9 t10 i11 i12 r13 i14 i15 b16 b17) sg (K2 q n K) =
  (bcond (i7 == i14) (bcond (i8 == i15) (cB q 13 [.agg [.int .i64 i2, .str t3, .int .i64 i4, .int .i64 i5, .list false r6], .agg [.int .i64 i9, .str t10, .int .i64 i11, .int .i64 i12, .list false r13]] sg (pan K) fun b302 sg301 => K ⟨false, .bool b302⟩ sg301) (K ⟨false, .bool false⟩ sg)) (K ⟨false, .bool false⟩ sg)) := by kernel_rfl
theorem eq (a0 : Int) (a1 : ByteArray) : B n q 4 sg [.int .i64 a0, .str a1] K =
  (cB q 10 [] sg (pan K) fun b2 sg1 => bcond (!b2) (K ⟨false, .bool false⟩ sg1) (C n q 4 [1, 1] (S0 a0 a1 (!b2)) sg1 (K0 q n K))) := by kernel_rfl
end Law12_SyntaxFragments
end
end Go.Ev
