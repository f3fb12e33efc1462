/- What the evaluator comes to at some functions. -/
import Derived.Test.YtmofhelddcnecaaGreatDoorProg
import Derived.Test.YtmofhelddcnecaaGreatDoorB4
import Derived.KernelRfl
set_option linter.unusedVariables false
set_option maxRecDepth 100000
namespace Go.Ev
open Go.Ev.PV
noncomputable section
variable (q : Caller) (n m0 : Nat)
variable (i0 i1 i2 i3 i4 i6 i7 i64 : Int)
variable (b2 b3 b4 b5 b6 b8 b9 b10 b11 : Bool)
variable (t0 t1 t5 : ByteArray)
variable (r0 r1 : List (List PV))
variable (p2 p3 p4 p5 p6 p7 p8 : PV)
variable (a0 : Nat)
variable (sg : List (List PV)) (K : KT)
namespace R11_Print
def S0 (r0 : List (List PV)) (t1 : ByteArray) (i2 : Int) (p3 p4 p5 p6 p7 p8 : PV) : List PV := .list false r0 :: .skip :: .str (⟨#[]⟩ : ByteArray) :: .int .i64 0 :: .str t1 :: .int .i64 i2 :: .undef :: .undef :: .undef :: p3 :: .undef :: U4 (U2 (p4 :: .undef :: p5 :: .undef :: U4 (U2 (p6 :: .undef :: U8 (U4 (p7 :: .undef :: U8 (U4 (p8 :: U16 []))))))))
def K0 (q : Caller) (n : Nat) (K : KT) : Cont := (blockK 0 (sK (En n) cutsOf q 31 [1, 1, 1] (fK (En n) 31 K)))
def S1 (r0 : List (List PV)) (t1 : ByteArray) (i2 : Int) (b3 b4 : Bool) (p5 p6 p7 p8 : PV) : List PV := .list false r0 :: .skip :: .str (⟨#[]⟩ : ByteArray) :: .int .i64 0 :: .str t1 :: .int .i64 i2 :: .undef :: .undef :: .undef :: .bool b3 :: .undef :: U4 (U2 (.bool b4 :: .undef :: p5 :: .undef :: U4 (U2 (p6 :: .undef :: U8 (U4 (p7 :: .undef :: U8 (U4 (p8 :: U16 []))))))))
def K1 (q : Caller) (n m0 : Nat) (K : KT) : Cont := (blockK 1 (sK (En n) cutsOf q 31 [1, 1, 0, 1, 0, 0, 1, 1] (lK (En n) q 31 [1, 1, 0, 1, 0, 0] (blockK 0 (sK (En n) cutsOf q 31 [1, 1, 1] (fK (En n) 31 K))) m0)))
def S2 (r0 : List (List PV)) (t1 : ByteArray) (i2 : Int) (b3 b4 b5 : Bool) (p6 p7 p8 : PV) : List PV := .list false r0 :: .skip :: .str (⟨#[]⟩ : ByteArray) :: .int .i64 0 :: .str t1 :: .int .i64 i2 :: .undef :: .undef :: .undef :: .bool b3 :: .undef :: U4 (U2 (.bool b4 :: .undef :: .bool b5 :: .undef :: U4 (U2 (p6 :: .undef :: U8 (U4 (p7 :: .undef :: U8 (U4 (p8 :: U16 []))))))))
def K2 (q : Caller) (n m0 : Nat) (K : KT) : Cont := (blockK 1 (sK (En n) cutsOf q 31 [1, 1, 0, 1, 0, 0, 1, 1] (lK (En n) q 31 [1, 1, 0, 1, 0, 0] (blockK 0 (sK (En n) cutsOf q 31 [1, 1, 1] (fK (En n) 31 K))) m0)))
theorem loop0 : T n q 31 [1, 1, 0, 1, 0, 0] (S0 r0 t1 i2 p3 p4 p5 p6 p7 p8) sg (lK (En n) q 31 [1, 1, 0, 1, 0, 0] (K0 q n K) m0) =
  (bcond (decide (i2 < (r0.length : Int))) (chk ((rowsOk 4 r0) && ((decide (0 ≤ i2)) && (decide (i2 < (r0.length : Int))))) (chk (decide (4 ≤ (rowAt r0 i2).length)) (chk (((((rowAt r0 i2).drop 0).take 4).map cstrip).length == 4) (chk (((((((rowAt r0 i2).drop 0).take 4).map cstrip).getD 0 .undef)).isI .i64) (chk (((((((rowAt r0 i2).drop 0).take 4).map cstrip).getD 1 .undef)).isS) (chk (((((((rowAt r0 i2).drop 0).take 4).map cstrip).getD 2 .undef)).isI .i64) (chk (((((((rowAt r0 i2).drop 0).take 4).map cstrip).getD 3 .undef)).isI .i64) (cB q 52 [.agg [.int .i64 (((((((rowAt r0 i2).drop 0).take 4).map cstrip).getD 0 .undef)).toI), .str (((((((rowAt r0 i2).drop 0).take 4).map cstrip).getD 1 .undef)).toS), .int .i64 (((((((rowAt r0 i2).drop 0).take 4).map cstrip).getD 2 .undef)).toI), .int .i64 (((((((rowAt r0 i2).drop 0).take 4).map cstrip).getD 3 .undef)).toI)]] sg (pan K) fun b102 sg101 => bcond (!b102) (K ⟨false, .tup [.str (⟨#[]⟩ : ByteArray), .int .i64 1]⟩ sg101) (C n q 31 [1, 1, 0, 1, 0, 0, 1, 0, 0, 1] (S1 r0 t1 i2 (decide (i2 < (r0.length : Int))) (!b102) p5 p6 p7 p8) sg101 (K1 q n m0 K)))))))))) (K ⟨false, .tup [.str t1, .int .i64 0]⟩ sg)) := by kernel_rfl
theorem cut1 : T n q 31 [1, 1, 0, 1, 0, 0, 1, 0, 0, 1] (S1 r0 t1 i2 b3 b4 p5 p6 p7 p8) sg (K1 q n m0 K) =
  (bcond (decide (i2 > 0)) (chk (sumOk t1 (⟨#[32]⟩ : ByteArray)) (C n q 31 [1, 1, 0, 1, 0, 0, 1, 0, 0, 1, 1] (S2 r0 (cat t1 (⟨#[32]⟩ : ByteArray)) i2 b3 b4 (decide (i2 > 0)) p6 p7 p8) sg (K2 q n m0 K))) (C n q 31 [1, 1, 0, 1, 0, 0, 1, 0, 0, 1, 1] (S2 r0 t1 i2 b3 b4 (decide (i2 > 0)) p6 p7 p8) sg (K2 q n m0 K))) := by kernel_rfl
theorem cut2 : T n q 31 [1, 1, 0, 1, 0, 0, 1, 0, 0, 1, 1] (S2 r0 t1 i2 b3 b4 b5 p6 p7 p8) sg (K2 q n m0 K) =
  (chk ((rowsOk 4 r0) && ((decide (0 ≤ i2)) && (decide (i2 < (r0.length : Int))))) (chk (decide (1 ≤ (rowAt r0 i2).length)) (chk (((((rowAt r0 i2).getD 0 .undef)).cstrip).isI .i64) (bcond (((((rowAt r0 i2).getD 0 .undef)).cstrip).toI == 4) (chk ((rowsOk 4 r0) && ((decide (0 ≤ i2)) && (decide (i2 < (r0.length : Int))))) (chk (decide (2 ≤ (rowAt r0 i2).length)) (chk (((((rowAt r0 i2).getD 1 .undef)).cstrip).isS) (cS q 53 [.str (((((rowAt r0 i2).getD 1 .undef)).cstrip).toS)] sg (pan K) fun t302 sg301 => chk (sumOk t1 t302) (L n q 31 [1, 1, 0, 1, 0, 0] (S0 r0 (cat t1 t302) (IntKind.i64.wrap (i2 + 1)) (PV.bool b3) (PV.bool b4) (PV.bool b5) (PV.bool (((((rowAt r0 i2).getD 0 .undef)).cstrip).toI == 4)) p7 p8) sg301 (K0 q n K) m0))))) (chk ((rowsOk 4 r0) && ((decide (0 ≤ i2)) && (decide (i2 < (r0.length : Int))))) (chk (decide (1 ≤ (rowAt r0 i2).length)) (chk (((((rowAt r0 i2).getD 0 .undef)).cstrip).isI .i64) (bcond (((((rowAt r0 i2).getD 0 .undef)).cstrip).toI == 6) (chk (sumOk t1 (⟨#[36]⟩ : ByteArray)) (chk ((rowsOk 4 r0) && ((decide (0 ≤ i2)) && (decide (i2 < (r0.length : Int))))) (chk (decide (2 ≤ (rowAt r0 i2).length)) (chk (((((rowAt r0 i2).getD 1 .undef)).cstrip).isS) (chk (sumOk (cat t1 (⟨#[36]⟩ : ByteArray)) (((((rowAt r0 i2).getD 1 .undef)).cstrip).toS)) (L n q 31 [1, 1, 0, 1, 0, 0] (S0 r0 (cat (cat t1 (⟨#[36]⟩ : ByteArray)) (((((rowAt r0 i2).getD 1 .undef)).cstrip).toS)) (IntKind.i64.wrap (i2 + 1)) (PV.bool b3) (PV.bool b4) (PV.bool b5) (PV.bool (((((rowAt r0 i2).getD 0 .undef)).cstrip).toI == 4)) (PV.bool (((((rowAt r0 i2).getD 0 .undef)).cstrip).toI == 6)) p8) sg (K0 q n K) m0)))))) (chk ((rowsOk 4 r0) && ((decide (0 ≤ i2)) && (decide (i2 < (r0.length : Int))))) (chk (decide (1 ≤ (rowAt r0 i2).length)) (chk (((((rowAt r0 i2).getD 0 .undef)).cstrip).isI .i64) (bcond (((((rowAt r0 i2).getD 0 .undef)).cstrip).toI == 7) (chk (sumOk t1 (⟨#[36, 36]⟩ : ByteArray)) (chk ((rowsOk 4 r0) && ((decide (0 ≤ i2)) && (decide (i2 < (r0.length : Int))))) (chk (decide (2 ≤ (rowAt r0 i2).length)) (chk (((((rowAt r0 i2).getD 1 .undef)).cstrip).isS) (chk (sumOk (cat t1 (⟨#[36, 36]⟩ : ByteArray)) (((((rowAt r0 i2).getD 1 .undef)).cstrip).toS)) (L n q 31 [1, 1, 0, 1, 0, 0] (S0 r0 (cat (cat t1 (⟨#[36, 36]⟩ : ByteArray)) (((((rowAt r0 i2).getD 1 .undef)).cstrip).toS)) (IntKind.i64.wrap (i2 + 1)) (PV.bool b3) (PV.bool b4) (PV.bool b5) (PV.bool (((((rowAt r0 i2).getD 0 .undef)).cstrip).toI == 4)) (PV.bool (((((rowAt r0 i2).getD 0 .undef)).cstrip).toI == 6)) (PV.bool (((((rowAt r0 i2).getD 0 .undef)).cstrip).toI == 7))) sg (K0 q n K) m0)))))) (chk ((rowsOk 4 r0) && ((decide (0 ≤ i2)) && (decide (i2 < (r0.length : Int))))) (chk (decide (2 ≤ (rowAt r0 i2).length)) (chk (((((rowAt r0 i2).getD 1 .undef)).cstrip).isS) (chk (sumOk t1 (((((rowAt r0 i2).getD 1 .undef)).cstrip).toS)) (L n q 31 [1, 1, 0, 1, 0, 0] (S0 r0 (cat t1 (((((rowAt r0 i2).getD 1 .undef)).cstrip).toS)) (IntKind.i64.wrap (i2 + 1)) (PV.bool b3) (PV.bool b4) (PV.bool b5) (PV.bool (((((rowAt r0 i2).getD 0 .undef)).cstrip).toI == 4)) (PV.bool (((((rowAt r0 i2).getD 0 .undef)).cstrip).toI == 6)) (PV.bool (((((rowAt r0 i2).getD 0 .undef)).cstrip).toI == 7))) sg (K0 q n K) m0))))))))))))))))) := by kernel_rfl
theorem eq (a0 : List (List PV)) : B n q 31 sg [.list false a0] K =
  (L n q 31 [1, 1, 0, 1, 0, 0] (S0 a0 (⟨#[]⟩ : ByteArray) 0 PV.skip PV.skip PV.skip PV.skip PV.skip PV.skip) sg (K0 q n K) n) := by kernel_rfl
end R11_Print
namespace R11_Right
def S0 (i0 : Int) (t1 : ByteArray) (i2 i3 i4 : Int) (t5 : ByteArray) (i6 i7 : Int) (b8 : Bool) : List PV := .agg [.int .i64 i0, .str t1, .int .i64 i2, .int .i64 i3] :: .box [.int .i64 i4, .str t5, .int .i64 i6, .int .i64 i7] :: .bool false :: U8 (U4 (.bool b8 :: .undef :: U4 (.skip :: .undef :: U4 (.skip :: .undef :: U4 (.skip :: .undef :: U8 (U2 []))))))
def K0 (q : Caller) (n : Nat) (K : KT) : Cont := (fK (En n) 52 K)
def S1 (i0 : Int) (t1 : ByteArray) (i2 i3 i4 : Int) (t5 : ByteArray) (i6 i7 : Int) (b8 b9 : Bool) : List PV := .agg [.int .i64 i0, .str t1, .int .i64 i2, .int .i64 i3] :: .box [.int .i64 i4, .str t5, .int .i64 i6, .int .i64 i7] :: .bool false :: U8 (U4 (.bool b8 :: .undef :: U4 (.bool b9 :: .undef :: U4 (.skip :: .undef :: U4 (.skip :: .undef :: U8 (U2 []))))))
def K1 (q : Caller) (n : Nat) (K : KT) : Cont := (fK (En n) 52 K)
def S2 (i0 : Int) (t1 : ByteArray) (i2 i3 i4 : Int) (t5 : ByteArray) (i6 i7 : Int) (b8 b9 b10 : Bool) : List PV := .agg [.int .i64 i0, .str t1, .int .i64 i2, .int .i64 i3] :: .box [.int .i64 i4, .str t5, .int .i64 i6, .int .i64 i7] :: .bool false :: U8 (U4 (.bool b8 :: .undef :: U4 (.bool b9 :: .undef :: U4 (.bool b10 :: .undef :: U4 (.skip :: .undef :: U8 (U2 []))))))
def K2 (q : Caller) (n : Nat) (K : KT) : Cont := (fK (En n) 52 K)
def S3 (i0 : Int) (t1 : ByteArray) (i2 i3 i4 : Int) (t5 : ByteArray) (i6 i7 : Int) (b8 b9 b10 b11 : Bool) : List PV := .agg [.int .i64 i0, .str t1, .int .i64 i2, .int .i64 i3] :: .box [.int .i64 i4, .str t5, .int .i64 i6, .int .i64 i7] :: .bool false :: U8 (U4 (.bool b8 :: .undef :: U4 (.bool b9 :: .undef :: U4 (.bool b10 :: .undef :: U4 (.bool b11 :: .undef :: U8 (U2 []))))))
def K3 (q : Caller) (n : Nat) (K : KT) : Cont := (fK (En n) 52 K)
theorem cut0 : T n q 52 [1, 1] (S0 i0 t1 i2 i3 i4 t5 i6 i7 b8) sg (K0 q n K) =
  (bcond (i4 == 2) (cB q 101 [.str t5] sg (pan K) fun b102 sg101 => K ⟨false, .bool b102⟩ sg101) (C n q 52 [1, 1, 1] (S1 i0 t1 i2 i3 i4 t5 i6 i7 b8 (i4 == 2)) sg (K1 q n K))) := by kernel_rfl
theorem cut1 : T n q 52 [1, 1, 1] (S1 i0 t1 i2 i3 i4 t5 i6 i7 b8 b9) sg (K1 q n K) =
  (bcond (i4 == 3) (cB q 106 [.str t5] sg (pan K) fun b202 sg201 => K ⟨false, .bool b202⟩ sg201) (C n q 52 [1, 1, 1, 1] (S2 i0 t1 i2 i3 i4 t5 i6 i7 b8 b9 (i4 == 3)) sg (K2 q n K))) := by kernel_rfl
theorem cut2 : T n q 52 [1, 1, 1, 1] (S2 i0 t1 i2 i3 i4 t5 i6 i7 b8 b9 b10) sg (K2 q n K) =
  (bcond (i4 == 4) (cB q 107 [.str t5] sg (pan K) fun b302 sg301 => K ⟨false, .bool b302⟩ sg301) (C n q 52 [1, 1, 1, 1, 1] (S3 i0 t1 i2 i3 i4 t5 i6 i7 b8 b9 b10 (i4 == 4)) sg (K3 q n K))) := by kernel_rfl
theorem cut3 : T n q 52 [1, 1, 1, 1, 1] (S3 i0 t1 i2 i3 i4 t5 i6 i7 b8 b9 b10 b11) sg (K3 q n K) =
  (bcond (i4 == 5) (cB q 108 [.str t5] sg (pan K) fun b402 sg401 => K ⟨false, .bool b402⟩ sg401) (K ⟨false, .bool false⟩ sg)) := by kernel_rfl
theorem eq (a0_0 : Int) (a0_1 : ByteArray) (a0_2 a0_3 : Int) : B n q 52 sg [.agg [.int .i64 a0_0, .str a0_1, .int .i64 a0_2, .int .i64 a0_3]] K =
  (bcond (a0_0 == 1) (cB q 105 [.str a0_1] sg (pan K) fun b2 sg1 => K ⟨false, .bool b2⟩ sg1) (bcond (a0_0 == 6) (cB q 105 [.str a0_1] sg (pan K) fun b4 sg3 => K ⟨false, .bool b4⟩ sg3) (bcond (a0_0 == 7) (cB q 105 [.str a0_1] sg (pan K) fun b6 sg5 => K ⟨false, .bool b6⟩ sg5) (C n q 52 [1, 1] (S0 a0_0 a0_1 a0_2 a0_3 a0_0 a0_1 a0_2 a0_3 (a0_0 == 7)) sg (K0 q n K))))) := by kernel_rfl
end R11_Right
namespace R11_Quote
def S0 (t0 : ByteArray) (r1 : List (List PV)) (i2 : Int) (p3 p4 p5 : PV) : List PV := .str t0 :: .skip :: .str (⟨#[]⟩ : ByteArray) :: .list true r1 :: .int .i64 i2 :: U4 (p3 :: .undef :: U8 (U2 (p4 :: .undef :: U8 (p5 :: U8 (U4 (U2 []))))))
def K0 (q : Caller) (n : Nat) (K : KT) : Cont := (blockK 0 (sK (En n) cutsOf q 53 [1, 1, 1] (fK (En n) 53 K)))
theorem loop0 : T n q 53 [1, 1, 0, 1, 0, 0] (S0 t0 r1 i2 p3 p4 p5) sg (lK (En n) q 53 [1, 1, 0, 1, 0, 0] (K0 q n K) m0) =
  (bcond (decide (i2 < (t0.size : Int))) (chk ((decide (0 ≤ i2)) && (decide (i2 < (t0.size : Int)))) (bcond ((byteAt t0 i2) == 34) (chk ((decide (0 ≤ i2)) && (decide (i2 < (t0.size : Int)))) (chk ((rowsOk 1 r1) && (decide ((r1.length + 2) ≤ mostL))) (L n q 53 [1, 1, 0, 1, 0, 0] (S0 t0 (r1 ++ [[PV.int .u8 92], [.int .u8 (byteAt t0 i2)]]) (IntKind.i64.wrap (i2 + 1)) (PV.bool (decide (i2 < (t0.size : Int)))) (PV.bool true) p5) sg (K0 q n K) m0))) (chk ((decide (0 ≤ i2)) && (decide (i2 < (t0.size : Int)))) (bcond ((byteAt t0 i2) == 92) (chk ((decide (0 ≤ i2)) && (decide (i2 < (t0.size : Int)))) (chk ((rowsOk 1 r1) && (decide ((r1.length + 2) ≤ mostL))) (L n q 53 [1, 1, 0, 1, 0, 0] (S0 t0 (r1 ++ [[PV.int .u8 92], [.int .u8 (byteAt t0 i2)]]) (IntKind.i64.wrap (i2 + 1)) (PV.bool (decide (i2 < (t0.size : Int)))) (PV.bool ((byteAt t0 i2) == 92)) p5) sg (K0 q n K) m0))) (chk ((decide (0 ≤ i2)) && (decide (i2 < (t0.size : Int)))) (bcond ((byteAt t0 i2) == 10) (chk ((rowsOk 1 r1) && (decide ((r1.length + 2) ≤ mostL))) (L n q 53 [1, 1, 0, 1, 0, 0] (S0 t0 (r1 ++ [[PV.int .u8 92], [.int .u8 110]]) (IntKind.i64.wrap (i2 + 1)) (PV.bool (decide (i2 < (t0.size : Int)))) (PV.bool ((byteAt t0 i2) == 92)) (PV.bool ((byteAt t0 i2) == 10))) sg (K0 q n K) m0)) (chk ((decide (0 ≤ i2)) && (decide (i2 < (t0.size : Int)))) (chk ((rowsOk 1 r1) && (decide ((r1.length + 1) ≤ mostL))) (L n q 53 [1, 1, 0, 1, 0, 0] (S0 t0 (r1 ++ [[PV.int .u8 (byteAt t0 i2)]]) (IntKind.i64.wrap (i2 + 1)) (PV.bool (decide (i2 < (t0.size : Int)))) (PV.bool ((byteAt t0 i2) == 92)) (PV.bool ((byteAt t0 i2) == 10))) sg (K0 q n K) m0))))))))) (chk ((rowsOk 1 r1) && (decide ((r1.length + 1) ≤ mostL))) (chk ((r1 ++ [[PV.int .u8 34]]).all isByteRow) (K ⟨false, .str (bytesOf (r1 ++ [[PV.int .u8 34]]))⟩ sg)))) := by kernel_rfl
theorem eq (a0 : ByteArray) : B n q 53 sg [.str a0] K =
  (L n q 53 [1, 1, 0, 1, 0, 0] (S0 a0 ([[PV.int .u8 34]]) 0 PV.skip PV.skip PV.skip) sg (K0 q n K) n) := by kernel_rfl
end R11_Quote
namespace R11_Name
theorem eq (a0 : ByteArray) : B n q 105 sg [.str a0] K =
  (bcond (decide ((a0.size : Int) > 0)) (bcond (decide ((a0.size : Int) ≤ 24)) (chk (decide (0 < (a0.size : Int))) (cB q 136 [.int .u8 (byteAt a0 0)] sg (pan K) fun b2 sg1 => bcond b2 (cI q 137 [.str a0, .int .i64 0] sg1 (pan K) fun i4 sg3 => bcond (i4 == (a0.size : Int)) (cB q 101 [.str a0] sg3 (pan K) fun b6 sg5 => K ⟨false, .bool (!b6)⟩ sg5) (K ⟨false, .bool false⟩ sg3)) (K ⟨false, .bool false⟩ sg1))) (K ⟨false, .bool false⟩ sg)) (K ⟨false, .bool false⟩ sg)) := by kernel_rfl
end R11_Name
namespace R11_digits
def S0 (t0 : ByteArray) (i1 : Int) (p2 p3 : PV) : List PV := .str t0 :: .skip :: .bool false :: .int .i64 i1 :: .undef :: .undef :: .undef :: p2 :: U4 (U2 (p3 :: U16 (U2 [])))
def K0 (q : Caller) (n : Nat) (K : KT) : Cont := (blockK 0 (sK (En n) cutsOf q 106 [1, 1] (fK (En n) 106 K)))
def S1 (t0 : ByteArray) (i1 : Int) (b2 : Bool) (p3 : PV) : List PV := .str t0 :: .skip :: .bool false :: .int .i64 i1 :: .undef :: .undef :: .undef :: .bool b2 :: U4 (U2 (p3 :: U16 (U2 [])))
def K1 (q : Caller) (n : Nat) (K : KT) : Cont := (fK (En n) 106 K)
theorem loop0 : T n q 106 [1, 0, 1, 0, 0] (S0 t0 i1 p2 p3) sg (lK (En n) q 106 [1, 0, 1, 0, 0] (K0 q n K) m0) =
  (bcond (decide (i1 < (t0.size : Int))) (chk ((decide (0 ≤ i1)) && (decide (i1 < (t0.size : Int)))) (cB q 138 [.int .u8 (byteAt t0 i1)] sg (pan K) fun b102 sg101 => bcond (!b102) (K ⟨false, .bool false⟩ sg101) (L n q 106 [1, 0, 1, 0, 0] (S0 t0 (IntKind.i64.wrap (i1 + 1)) (PV.bool (decide (i1 < (t0.size : Int)))) (PV.bool (!b102))) sg101 (K0 q n K) m0))) (C n q 106 [1, 1] (S1 t0 i1 (decide (i1 < (t0.size : Int))) p3) sg (K1 q n K))) := by kernel_rfl
theorem cut1 : T n q 106 [1, 1] (S1 t0 i1 b2 p3) sg (K1 q n K) =
  (bcond (decide ((t0.size : Int) ≥ 1)) (bcond (decide ((t0.size : Int) ≤ 9)) (bcond ((t0.size : Int) == 1) (K ⟨false, .bool true⟩ sg) (chk (decide (0 < (t0.size : Int))) (K ⟨false, .bool ((byteAt t0 0) != 48)⟩ sg))) (K ⟨false, .bool false⟩ sg)) (K ⟨false, .bool false⟩ sg)) := by kernel_rfl
theorem eq (a0 : ByteArray) : B n q 106 sg [.str a0] K =
  (L n q 106 [1, 0, 1, 0, 0] (S0 a0 0 PV.skip PV.skip) sg (K0 q n K) n) := by kernel_rfl
end R11_digits
namespace R11_contents
def S0 (t0 : ByteArray) (i1 : Int) (p2 p3 : PV) : List PV := .str t0 :: .skip :: .bool false :: .int .i64 i1 :: .undef :: .undef :: .undef :: p2 :: .undef :: U16 [p3, .undef, .undef, .undef]
def K0 (q : Caller) (n : Nat) (K : KT) : Cont := (blockK 0 (sK (En n) cutsOf q 107 [1, 1] (fK (En n) 107 K)))
theorem loop0 : T n q 107 [1, 0, 1, 0, 0] (S0 t0 i1 p2 p3) sg (lK (En n) q 107 [1, 0, 1, 0, 0] (K0 q n K) m0) =
  (bcond (decide (i1 < (t0.size : Int))) (chk ((decide (0 ≤ i1)) && (decide (i1 < (t0.size : Int)))) (bcond ((byteAt t0 i1) != 10) (chk ((decide (0 ≤ i1)) && (decide (i1 < (t0.size : Int)))) (bcond (decide ((byteAt t0 i1) < 32)) (K ⟨false, .bool false⟩ sg) (chk ((decide (0 ≤ i1)) && (decide (i1 < (t0.size : Int)))) (bcond (decide ((byteAt t0 i1) > 126)) (K ⟨false, .bool false⟩ sg) (L n q 107 [1, 0, 1, 0, 0] (S0 t0 (IntKind.i64.wrap (i1 + 1)) (PV.bool (decide (i1 < (t0.size : Int)))) (PV.bool (decide ((byteAt t0 i1) > 126)))) sg (K0 q n K) m0))))) (L n q 107 [1, 0, 1, 0, 0] (S0 t0 (IntKind.i64.wrap (i1 + 1)) (PV.bool (decide (i1 < (t0.size : Int)))) (PV.bool false)) sg (K0 q n K) m0))) (K ⟨false, .bool (decide ((t0.size : Int) ≤ 60))⟩ sg)) := by kernel_rfl
theorem eq (a0 : ByteArray) : B n q 107 sg [.str a0] K =
  (L n q 107 [1, 0, 1, 0, 0] (S0 a0 0 PV.skip PV.skip) sg (K0 q n K) n) := by kernel_rfl
end R11_contents
end
end Go.Ev
