/- What the evaluator comes to at some functions. -/
import Derived.Test.YtmofhelddcnecaaGreatDoorProg
import Derived.Test.YtmofhelddcnecaaGreatDoorB4
import Derived.KernelRfl
set_option linter.unusedVariables false
set_option maxRecDepth 100000
namespace Go.Ev
open Go.Ev.PV
noncomputable section
variable (q : Caller) (n m0 m4 : Nat)
variable (i0 i1 i2 i3 i4 i5 i6 i7 i8 i9 i10 i11 i12 i13 i14 i15 i16 i17 i18 i64 : Int)
variable (b1 b2 b3 b7 b8 b9 b10 b11 b12 b13 b14 b15 b16 b17 b18 b19 b20 b22 b23 : Bool)
variable (t0 t1 t2 t3 t6 t7 t8 t11 t12 t16 : ByteArray)
variable (r0 r1 r4 r5 r6 r7 r9 r10 r14 r15 r19 : List (List PV))
variable (p4 p5 p7 p9 p10 p11 p12 p13 p15 p16 p17 p18 p19 p20 p21 p24 : PV)
variable (a0 a1 : Nat)
variable (sg : List (List PV)) (K : KT)
namespace Law12_SyntaxBlanks
def S0 (t0 : ByteArray) (b1 : Bool) : List PV := .str t0 :: .skip :: .bool false :: .skip :: .undef :: .skip :: .skip :: .undef :: .undef :: .skip :: .skip :: .skip :: .undef :: .undef :: .bool b1 :: U8 (U4 (.skip :: U16 (U8 (U4 []))))
def K0 (q : Caller) (n : Nat) (K : KT) : Cont := (fK (En n) 8 K)
def S1 (t0 : ByteArray) (i1 : Int) (t2 : ByteArray) (i3 i4 : Int) (r5 : List (List PV)) (i6 : Int) (b7 : Bool) : List PV := .str t0 :: .skip :: .bool false :: .box [.int .i64 i1, .str t2, .int .i64 i3, .int .i64 i4, .list false r5] :: .undef :: .int .i64 i6 :: .skip :: .undef :: .undef :: .skip :: .skip :: .skip :: .undef :: .undef :: .bool b7 :: U8 (U4 (.skip :: U16 (U8 (U4 []))))
def K1 (q : Caller) (n : Nat) (K : KT) : Cont := (fK (En n) 8 K)
def S2 (t0 : ByteArray) (i1 : Int) (t2 : ByteArray) (i3 i4 : Int) (r5 : List (List PV)) (i6 : Int) (b7 b8 : Bool) : List PV := .str t0 :: .skip :: .bool false :: .box [.int .i64 i1, .str t2, .int .i64 i3, .int .i64 i4, .list false r5] :: .undef :: .int .i64 i6 :: .skip :: .undef :: .undef :: .skip :: .skip :: .skip :: .undef :: .undef :: .bool b7 :: U8 (U4 (.bool b8 :: U16 (U8 (U4 []))))
def K2 (q : Caller) (n : Nat) (K : KT) : Cont := (fK (En n) 8 K)
def S3 (t0 : ByteArray) (i1 : Int) (t2 : ByteArray) (i3 i4 : Int) (r5 : List (List PV)) (i6 : Int) (r7 : List (List PV)) (b8 b9 : Bool) : List PV := .str t0 :: .skip :: .bool false :: .box [.int .i64 i1, .str t2, .int .i64 i3, .int .i64 i4, .list false r5] :: .undef :: .int .i64 i6 :: .list false r7 :: .undef :: .undef :: .skip :: .skip :: .skip :: .undef :: .undef :: .bool b8 :: U8 (U4 (.bool b9 :: U16 (U8 (U4 []))))
def K3 (q : Caller) (n : Nat) (K : KT) : Cont := (fK (En n) 8 K)
def S4 (t0 : ByteArray) (i1 : Int) (t2 : ByteArray) (i3 i4 : Int) (r5 : List (List PV)) (i6 : Int) (r7 : List (List PV)) (t8 : ByteArray) (i9 : Int) (b10 b11 : Bool) : List PV := .str t0 :: .skip :: .bool false :: .box [.int .i64 i1, .str t2, .int .i64 i3, .int .i64 i4, .list false r5] :: .undef :: .int .i64 i6 :: .list false r7 :: .undef :: .undef :: .str t8 :: .int .i64 i9 :: .skip :: .undef :: .undef :: .bool b10 :: U8 (U4 (.bool b11 :: U16 (U8 (U4 []))))
def K4 (q : Caller) (n : Nat) (K : KT) : Cont := (fK (En n) 8 K)
def S5 (t0 : ByteArray) (i1 : Int) (t2 : ByteArray) (i3 i4 : Int) (r5 : List (List PV)) (i6 : Int) (r7 : List (List PV)) (t8 : ByteArray) (i9 i10 : Int) (t11 : ByteArray) (i12 i13 : Int) (r14 : List (List PV)) (b15 b16 : Bool) : List PV := .str t0 :: .skip :: .bool false :: .box [.int .i64 i1, .str t2, .int .i64 i3, .int .i64 i4, .list false r5] :: .undef :: .int .i64 i6 :: .list false r7 :: .undef :: .undef :: .str t8 :: .int .i64 i9 :: .box [.int .i64 i10, .str t11, .int .i64 i12, .int .i64 i13, .list false r14] :: .undef :: .undef :: .bool b15 :: U8 (U4 (.bool b16 :: U16 (U8 (U4 []))))
def K5 (q : Caller) (n : Nat) (K : KT) : Cont := (fK (En n) 8 K)
theorem cut0 : T n q 8 [1, 1] (S0 t0 b1) sg (K0 q n K) =
  (cP q 11 [.str t0] sg (pan K) fun r102 sg101 => exV (((r102).strip).strip) 0 fun v103 => chk ((v103).isAgg && (((v103).aggC).length == 5)) (chk (((((v103).aggC).getD 0 .undef)).isI .i64) (chk (((((v103).aggC).getD 1 .undef)).isS) (chk (((((v103).aggC).getD 2 .undef)).isI .i64) (chk (((((v103).aggC).getD 3 .undef)).isI .i64) (chk (((((v103).aggC).getD 4 .undef)).isL) (exV (((r102).strip).strip) 1 fun v104 => chk ((v104).isI .i64) (exV (((r102).strip).strip) 2 fun v105 => chk ((v105).isI .i64) (chk (!(isBaddr 3 ((r102).strip) || (isBaddr 3 r102 || false))) (C n q 8 [1, 1, 1] (S1 t0 (((((v103).aggC).getD 0 .undef)).toI) (((((v103).aggC).getD 1 .undef)).toS) (((((v103).aggC).getD 2 .undef)).toI) (((((v103).aggC).getD 3 .undef)).toI) (((((v103).aggC).getD 4 .undef)).rows) ((v105).toI) b1) sg101 (K1 q n K))))))))))) := by kernel_rfl
theorem cut1 : T n q 8 [1, 1, 1] (S1 t0 i1 t2 i3 i4 r5 i6 b7) sg (K1 q n K) =
  (bcond (decide ((t0.size : Int) > 2000)) (K ⟨false, .bool true⟩ sg) (bcond (i6 != 0) (K ⟨false, .bool true⟩ sg) (C n q 8 [1, 1, 1, 1] (S2 t0 i1 t2 i3 i4 r5 i6 b7 (i6 != 0)) sg (K2 q n K)))) := by kernel_rfl
theorem cut2 : T n q 8 [1, 1, 1, 1] (S2 t0 i1 t2 i3 i4 r5 i6 b7 b8) sg (K2 q n K) =
  (cP q 30 [.str t0] sg (pan K) fun r302 sg301 => exV (((r302).strip).strip) 0 fun v303 => chk ((v303).isL) (exV (((r302).strip).strip) 1 fun v304 => chk ((v304).isI .i64) (exV (((r302).strip).strip) 2 fun v305 => chk ((v305).isI .i64) (C n q 8 [1, 1, 1, 1, 1] (S3 t0 i1 t2 i3 i4 r5 i6 ((v303).rows) b7 b8) sg301 (K3 q n K))))) := by kernel_rfl
theorem cut3 : T n q 8 [1, 1, 1, 1, 1] (S3 t0 i1 t2 i3 i4 r5 i6 r7 b8 b9) sg (K3 q n K) =
  (cP q 31 [.list false r7] sg (pan K) fun r402 sg401 => exV (((r402).strip).strip) 0 fun v403 => chk ((v403).isS) (exV (((r402).strip).strip) 1 fun v404 => chk ((v404).isI .i64) (C n q 8 [1, 1, 1, 1, 1, 1] (S4 t0 i1 t2 i3 i4 r5 i6 r7 ((v403).toS) ((v404).toI) b8 b9) sg401 (K4 q n K)))) := by kernel_rfl
theorem cut4 : T n q 8 [1, 1, 1, 1, 1, 1] (S4 t0 i1 t2 i3 i4 r5 i6 r7 t8 i9 b10 b11) sg (K4 q n K) =
  (cP q 11 [.str t8] sg (pan K) fun r502 sg501 => exV (((r502).strip).strip) 0 fun v503 => chk ((v503).isAgg && (((v503).aggC).length == 5)) (chk (((((v503).aggC).getD 0 .undef)).isI .i64) (chk (((((v503).aggC).getD 1 .undef)).isS) (chk (((((v503).aggC).getD 2 .undef)).isI .i64) (chk (((((v503).aggC).getD 3 .undef)).isI .i64) (chk (((((v503).aggC).getD 4 .undef)).isL) (exV (((r502).strip).strip) 1 fun v504 => chk ((v504).isI .i64) (exV (((r502).strip).strip) 2 fun v505 => chk ((v505).isI .i64) (chk (!(isBaddr 11 ((r502).strip) || (isBaddr 11 r502 || false))) (C n q 8 [1, 1, 1, 1, 1, 1, 1] (S5 t0 i1 t2 i3 i4 r5 ((v505).toI) r7 t8 i9 (((((v503).aggC).getD 0 .undef)).toI) (((((v503).aggC).getD 1 .undef)).toS) (((((v503).aggC).getD 2 .undef)).toI) (((((v503).aggC).getD 3 .undef)).toI) (((((v503).aggC).getD 4 .undef)).rows) b10 b11) sg501 (K5 q n K))))))))))) := by kernel_rfl
theorem cut5 : T n q 8 [1, 1, 1, 1, 1, 1, 1] (S5 t0 i1 t2 i3 i4 r5 i6 r7 t8 i9 i10 t11 i12 i13 r14 b15 b16) sg (K5 q n K) =
  (bcond (i9 == 0) (bcond (i6 == 0) (cB q 25 [.agg [.int .i64 i1, .str t2, .int .i64 i3, .int .i64 i4, .list false r5], .agg [.int .i64 i10, .str t11, .int .i64 i12, .int .i64 i13, .list false r14]] sg (pan K) fun b602 sg601 => K ⟨false, .bool b602⟩ sg601) (K ⟨false, .bool false⟩ sg)) (K ⟨false, .bool false⟩ sg)) := by kernel_rfl
theorem eq (a0 : ByteArray) : B n q 8 sg [.str a0] K =
  (cB q 10 [] sg (pan K) fun b2 sg1 => bcond (!b2) (K ⟨false, .bool false⟩ sg1) (C n q 8 [1, 1] (S0 a0 (!b2)) sg1 (K0 q n K))) := by kernel_rfl
end Law12_SyntaxBlanks
end
end Go.Ev
