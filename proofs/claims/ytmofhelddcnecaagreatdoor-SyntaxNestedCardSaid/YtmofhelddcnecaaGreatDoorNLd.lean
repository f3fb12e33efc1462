/- What the evaluator comes to at some functions. -/
import Derived.Test.YtmofhelddcnecaaGreatDoorProg
import Derived.Test.YtmofhelddcnecaaGreatDoorN4
import Derived.KernelRfl
set_option linter.unusedVariables false
set_option maxRecDepth 100000
namespace Go.Ev
open Go.Ev.PV
noncomputable section
variable (q : Caller) (n m0 m4 : Nat)
variable (i0 i1 i2 i3 i4 i5 i6 i7 i8 i9 i10 i11 i12 i13 i14 i15 i16 i17 i18 i64 : Int)
variable (b1 b2 b3 b7 b8 b9 b10 b11 b12 b13 b14 b15 b16 b17 b18 b19 b20 b22 b23 : Bool)
variable (t0 t1 t2 t3 t6 t7 t8 t11 t12 t16 : ByteArray)
variable (r0 r1 r4 r5 r6 r7 r9 r10 r14 r15 r19 : List (List PV))
variable (p4 p5 p7 p9 p10 p11 p12 p13 p15 p16 p17 p18 p19 p20 p21 p24 : PV)
variable (a0 a1 : Nat)
variable (sg : List (List PV)) (K : KT)
namespace Law12_SyntaxNested
def S0 (i0 : Int) (t1 : ByteArray) (b2 : Bool) : List PV := .int .i64 i0 :: .str t1 :: .skip :: .skip :: .bool false :: .skip :: .undef :: .skip :: .undef :: .bool b2 :: .undef :: .undef :: .skip :: .undef :: U16 (U8 (U4 (.skip :: .undef :: U16 (U8 []))))
def K0 (q : Caller) (n : Nat) (K : KT) : Cont := (fK (En n) 5 K)
def S1 (i0 : Int) (t1 : ByteArray) (i2 : Int) (t3 : ByteArray) (i4 i5 : Int) (r6 : List (List PV)) (i7 : Int) (b8 b9 : Bool) : List PV := .int .i64 i0 :: .str t1 :: .skip :: .skip :: .bool false :: .box [.int .i64 i2, .str t3, .int .i64 i4, .int .i64 i5, .list false r6] :: .undef :: .int .i64 i7 :: .undef :: .bool b8 :: .undef :: .undef :: .bool b9 :: .undef :: U16 (U8 (U4 (.skip :: .undef :: U16 (U8 []))))
def K1 (q : Caller) (n : Nat) (K : KT) : Cont := (fK (En n) 5 K)
def S2 (i0 : Int) (t1 : ByteArray) (i2 : Int) (t3 : ByteArray) (i4 i5 : Int) (r6 : List (List PV)) (i7 : Int) (b8 b9 b10 : Bool) : List PV := .int .i64 i0 :: .str t1 :: .skip :: .skip :: .bool false :: .box [.int .i64 i2, .str t3, .int .i64 i4, .int .i64 i5, .list false r6] :: .undef :: .int .i64 i7 :: .undef :: .bool b8 :: .undef :: .undef :: .bool b9 :: .undef :: U16 (U8 (U4 (.bool b10 :: .undef :: U16 (U8 []))))
def K2 (q : Caller) (n : Nat) (K : KT) : Cont := (fK (En n) 5 K)
def S3 (i0 : Int) (t1 : ByteArray) (i2 : Int) (t3 : ByteArray) (i4 i5 : Int) (r6 : List (List PV)) (i7 : Int) (b8 b9 b10 : Bool) : List PV := .int .i64 i0 :: .str t1 :: .skip :: .skip :: .bool false :: .box [.int .i64 i2, .str t3, .int .i64 i4, .int .i64 i5, .list false r6] :: .undef :: .int .i64 i7 :: .undef :: .bool b8 :: .undef :: .undef :: .bool b9 :: .undef :: U16 (U8 (U4 (.bool b10 :: .undef :: U16 (U8 []))))
def K3 (q : Caller) (n : Nat) (K : KT) : Cont := (fK (En n) 5 K)
theorem cut0 : T n q 5 [1, 1] (S0 i0 t1 b2) sg (K0 q n K) =
  (bcond (decide ((t1.size : Int) > 2000)) (K ⟨false, .bool true⟩ sg) (cP q 11 [.str t1] sg (pan K) fun r102 sg101 => exV (((r102).strip).strip) 0 fun v103 => chk ((v103).isAgg && (((v103).aggC).length == 5)) (chk (((((v103).aggC).getD 0 .undef)).isI .i64) (chk (((((v103).aggC).getD 1 .undef)).isS) (chk (((((v103).aggC).getD 2 .undef)).isI .i64) (chk (((((v103).aggC).getD 3 .undef)).isI .i64) (chk (((((v103).aggC).getD 4 .undef)).isL) (exV (((r102).strip).strip) 1 fun v104 => chk ((v104).isI .i64) (exV (((r102).strip).strip) 2 fun v105 => chk ((v105).isI .i64) (chk (!(isBaddr 5 ((r102).strip) || (isBaddr 5 r102 || false))) (C n q 5 [1, 1, 1, 1] (S1 i0 t1 (((((v103).aggC).getD 0 .undef)).toI) (((((v103).aggC).getD 1 .undef)).toS) (((((v103).aggC).getD 2 .undef)).toI) (((((v103).aggC).getD 3 .undef)).toI) (((((v103).aggC).getD 4 .undef)).rows) ((v105).toI) b2 (decide ((t1.size : Int) > 2000))) sg101 (K1 q n K)))))))))))) := by kernel_rfl
theorem cut1 : T n q 5 [1, 1, 1, 1] (S1 i0 t1 i2 t3 i4 i5 r6 i7 b8 b9) sg (K1 q n K) =
  (bcond (i7 == 0) (bcond (decide (i4 < 0)) (K ⟨false, .bool false⟩ sg) (bcond (decide (i5 > (t1.size : Int))) (K ⟨false, .bool false⟩ sg) (cB q 16 [.agg [.int .i64 i2, .str t3, .int .i64 i4, .int .i64 i5, .list false r6]] sg (pan K) fun b202 sg201 => bcond (!b202) (K ⟨false, .bool false⟩ sg201) (cB q 17 [.agg [.int .i64 i2, .str t3, .int .i64 i4, .int .i64 i5, .list false r6]] sg201 (pan K) fun b204 sg203 => bcond (!b204) (K ⟨false, .bool false⟩ sg203) (C n q 5 [1, 1, 1, 1, 1] (S2 i0 t1 i2 t3 i4 i5 r6 i7 b8 b9 (!b204)) sg203 (K2 q n K)))))) (C n q 5 [1, 1, 1, 1, 1] (S2 i0 t1 i2 t3 i4 i5 r6 i7 b8 b9 false) sg (K2 q n K))) := by kernel_rfl
theorem cut2 : T n q 5 [1, 1, 1, 1, 1] (S2 i0 t1 i2 t3 i4 i5 r6 i7 b8 b9 b10) sg (K2 q n K) =
  (cP q 14 [.int .i64 i0, .str t1] sg (pan K) fun r302 sg301 => exV (((r302).strip).strip) 0 fun v303 => chk ((v303).isAgg && (((v303).aggC).length == 5)) (chk (((((v303).aggC).getD 0 .undef)).isI .i64) (chk (((((v303).aggC).getD 1 .undef)).isS) (chk (((((v303).aggC).getD 2 .undef)).isI .i64) (chk (((((v303).aggC).getD 3 .undef)).isI .i64) (chk (((((v303).aggC).getD 4 .undef)).isL) (exV (((r302).strip).strip) 1 fun v304 => chk ((v304).isI .i64) (exV (((r302).strip).strip) 2 fun v305 => chk ((v305).isI .i64) (C n q 5 [1, 1, 1, 1, 1, 1] (S3 i0 t1 (((((v303).aggC).getD 0 .undef)).toI) (((((v303).aggC).getD 1 .undef)).toS) (((((v303).aggC).getD 2 .undef)).toI) (((((v303).aggC).getD 3 .undef)).toI) (((((v303).aggC).getD 4 .undef)).rows) ((v305).toI) b8 b9 b10) sg301 (K3 q n K)))))))))) := by kernel_rfl
theorem cut3 : T n q 5 [1, 1, 1, 1, 1, 1] (S3 i0 t1 i2 t3 i4 i5 r6 i7 b8 b9 b10) sg (K3 q n K) =
  (bcond (i7 != 0) (K ⟨false, .bool true⟩ sg) (bcond (decide (i4 ≥ 0)) (bcond (decide (i5 ≤ (t1.size : Int))) (cB q 16 [.agg [.int .i64 i2, .str t3, .int .i64 i4, .int .i64 i5, .list false r6]] sg (pan K) fun b402 sg401 => K ⟨false, .bool b402⟩ sg401) (K ⟨false, .bool false⟩ sg)) (K ⟨false, .bool false⟩ sg))) := by kernel_rfl
theorem eq (a0 : Int) (a1 : ByteArray) : B n q 5 sg [.int .i64 a0, .str a1] K =
  (cB q 10 [] sg (pan K) fun b2 sg1 => bcond (!b2) (K ⟨false, .bool false⟩ sg1) (C n q 5 [1, 1] (S0 a0 a1 (!b2)) sg1 (K0 q n K))) := by kernel_rfl
end Law12_SyntaxNested
namespace Law12_nested
def S0 (i0 : Int) (t1 : ByteArray) (i2 i3 : Int) (r4 : List (List PV)) (i5 : Int) (t6 : ByteArray) (i7 i8 : Int) (r9 : List (List PV)) (i10 i11 : Int) (p12 p13 : PV) : List PV := .agg [.int .i64 i0, .str t1, .int .i64 i2, .int .i64 i3, .list false r4] :: .box [.int .i64 i5, .str t6, .int .i64 i7, .int .i64 i8, .list false r9] :: .bool false :: .int .i64 i10 :: .int .i64 i11 :: U4 (U2 (p12 :: U16 (U2 (p13 :: U8 (U2 [])))))
def K0 (q : Caller) (n : Nat) (K : KT) : Cont := (blockK 0 (sK (En n) cutsOf q 16 [1, 1, 1] (fK (En n) 16 K)))
def S1 (i0 : Int) (t1 : ByteArray) (i2 i3 : Int) (r4 : List (List PV)) (i5 : Int) (t6 : ByteArray) (i7 i8 : Int) (r9 : List (List PV)) (i10 i11 : Int) (b12 b13 : Bool) : List PV := .agg [.int .i64 i0, .str t1, .int .i64 i2, .int .i64 i3, .list false r4] :: .box [.int .i64 i5, .str t6, .int .i64 i7, .int .i64 i8, .list false r9] :: .bool false :: .int .i64 i10 :: .int .i64 i11 :: U4 (U2 (.bool b12 :: U16 (U2 (.bool b13 :: U8 (U2 [])))))
def K1 (q : Caller) (n m0 : Nat) (K : KT) : Cont := (blockK 1 (sK (En n) cutsOf q 16 [1, 1, 0, 1, 0, 0, 1, 1] (lK (En n) q 16 [1, 1, 0, 1, 0, 0] (blockK 0 (sK (En n) cutsOf q 16 [1, 1, 1] (fK (En n) 16 K))) m0)))
def S2 (i0 : Int) (t1 : ByteArray) (i2 i3 : Int) (r4 : List (List PV)) (i5 : Int) (t6 : ByteArray) (i7 i8 : Int) (r9 : List (List PV)) (i10 i11 : Int) (b12 : Bool) (p13 : PV) : List PV := .agg [.int .i64 i0, .str t1, .int .i64 i2, .int .i64 i3, .list false r4] :: .box [.int .i64 i5, .str t6, .int .i64 i7, .int .i64 i8, .list false r9] :: .bool false :: .int .i64 i10 :: .int .i64 i11 :: U4 (U2 (.bool b12 :: U16 (U2 (p13 :: U8 (U2 [])))))
def K2 (q : Caller) (n : Nat) (K : KT) : Cont := (fK (En n) 16 K)
theorem loop0 : T n q 16 [1, 1, 0, 1, 0, 0] (S0 i0 t1 i2 i3 r4 i5 t6 i7 i8 r9 i10 i11 p12 p13) sg (lK (En n) q 16 [1, 1, 0, 1, 0, 0] (K0 q n K) m0) =
  (bcond (decide (i11 < (r9.length : Int))) (chk ((rowsOk 5 r9) && ((decide (0 ≤ i11)) && (decide (i11 < (r9.length : Int))))) (chk (decide (3 ≤ (rowAt r9 i11).length)) (chk (((((rowAt r9 i11).getD 2 .undef)).cstrip).isI .i64) (bcond (decide (((((rowAt r9 i11).getD 2 .undef)).cstrip).toI < i10)) (K ⟨false, .bool false⟩ sg) (chk ((rowsOk 5 r9) && ((decide (0 ≤ i11)) && (decide (i11 < (r9.length : Int))))) (chk (decide (5 ≤ (rowAt r9 i11).length)) (chk (((((rowAt r9 i11).drop 0).take 5).map cstrip).length == 5) (chk (((nk (rowAt r9 i11) 0)).isI .i64) (chk (((nk (rowAt r9 i11) 1)).isS) (chk (((nk (rowAt r9 i11) 2)).isI .i64) (chk (((nk (rowAt r9 i11) 3)).isI .i64) (chk (((nk (rowAt r9 i11) 4)).isL) (cB q 16 [.agg [.int .i64 (((nk (rowAt r9 i11) 0)).toI), .str (((nk (rowAt r9 i11) 1)).toS), .int .i64 (((nk (rowAt r9 i11) 2)).toI), .int .i64 (((nk (rowAt r9 i11) 3)).toI), .list false (((nk (rowAt r9 i11) 4)).rows)]] sg (pan K) fun b102 sg101 => bcond (!b102) (K ⟨false, .bool false⟩ sg101) (C n q 16 [1, 1, 0, 1, 0, 0, 1, 0, 0, 1] (S1 i0 t1 i2 i3 r4 i5 t6 i7 i8 r9 i10 i11 (decide (i11 < (r9.length : Int))) (!b102)) sg101 (K1 q n m0 K))))))))))))))) (C n q 16 [1, 1, 1] (S2 i0 t1 i2 i3 r4 i5 t6 i7 i8 r9 i10 i11 (decide (i11 < (r9.length : Int))) p13) sg (K2 q n K))) := by kernel_rfl
theorem cut1 : T n q 16 [1, 1, 0, 1, 0, 0, 1, 0, 0, 1] (S1 i0 t1 i2 i3 r4 i5 t6 i7 i8 r9 i10 i11 b12 b13) sg (K1 q n m0 K) =
  (chk ((rowsOk 5 r9) && ((decide (0 ≤ i11)) && (decide (i11 < (r9.length : Int))))) (chk (decide (4 ≤ (rowAt r9 i11).length)) (chk (((((rowAt r9 i11).getD 3 .undef)).cstrip).isI .i64) (L n q 16 [1, 1, 0, 1, 0, 0] (S0 i0 t1 i2 i3 r4 i5 t6 i7 i8 r9 (((((rowAt r9 i11).getD 3 .undef)).cstrip).toI) (IntKind.i64.wrap (i11 + 1)) (PV.bool b12) (PV.bool b13)) sg (K0 q n K) m0)))) := by kernel_rfl
theorem cut2 : T n q 16 [1, 1, 1] (S2 i0 t1 i2 i3 r4 i5 t6 i7 i8 r9 i10 i11 b12 p13) sg (K2 q n K) =
  (K ⟨false, .bool (decide (i10 ≤ i8))⟩ sg) := by kernel_rfl
theorem eq (a0_0 : Int) (a0_1 : ByteArray) (a0_2 a0_3 : Int) (a0_4 : List (List PV)) : B n q 16 sg [.agg [.int .i64 a0_0, .str a0_1, .int .i64 a0_2, .int .i64 a0_3, .list false a0_4]] K =
  (L n q 16 [1, 1, 0, 1, 0, 0] (S0 a0_0 a0_1 a0_2 a0_3 a0_4 a0_0 a0_1 a0_2 a0_3 a0_4 a0_2 0 PV.skip PV.skip) sg (K0 q n K) n) := by kernel_rfl
end Law12_nested
end
end Go.Ev
