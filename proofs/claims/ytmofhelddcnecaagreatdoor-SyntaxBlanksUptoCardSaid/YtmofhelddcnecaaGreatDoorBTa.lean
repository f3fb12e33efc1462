/- What the evaluator comes to at some functions. -/
import Derived.Test.YtmofhelddcnecaaGreatDoorProg
import Derived.Test.YtmofhelddcnecaaGreatDoorB4
import Derived.KernelRfl
set_option linter.unusedVariables false
set_option maxRecDepth 100000
namespace Go.Ev
open Go.Ev.PV
noncomputable section
variable (q : Caller) (n m0 m1 m2 : Nat)
variable (i1 i2 i3 i4 i6 i7 i8 i64 : Int)
variable (b1 b2 b3 b4 b5 b6 b7 b9 b10 : Bool)
variable (t0 t2 t3 t4 t5 : ByteArray)
variable (r2 r8 r12 r16 : List (List PV))
variable (p2 p3 p4 p5 p6 p7 p8 p9 p10 p11 : PV)
variable (a0 a1 : Nat)
variable (sg : List (List PV)) (K : KT)
namespace token_Scan
theorem eq (a0 : ByteArray) : B n q 32 sg [.str a0] K =
  (cP q 54 [.str a0, .bool false] sg (pan K) fun r2 sg1 => exV ((r2).strip) 0 fun v3 => chk ((v3).isL) (exV ((r2).strip) 1 fun v4 => chk ((v4).isI .i64) (exV ((r2).strip) 2 fun v5 => chk ((v5).isI .i64) (K ⟨false, .tup [.list false ((v3).rows), .int .i64 ((v4).toI), .int .i64 ((v5).toI)]⟩ sg1)))) := by kernel_rfl
end token_Scan
namespace token_ScanPattern
theorem eq (a0 : ByteArray) : B n q 37 sg [.str a0] K =
  (cP q 54 [.str a0, .bool true] sg (pan K) fun r2 sg1 => exV ((r2).strip) 0 fun v3 => chk ((v3).isL) (exV ((r2).strip) 1 fun v4 => chk ((v4).isI .i64) (exV ((r2).strip) 2 fun v5 => chk ((v5).isI .i64) (K ⟨false, .tup [.list false ((v3).rows), .int .i64 ((v4).toI), .int .i64 ((v5).toI)]⟩ sg1)))) := by kernel_rfl
end token_ScanPattern
namespace token_scan
def S0 (t0 : ByteArray) (b1 : Bool) (i2 : Int) : List PV := .str t0 :: .bool b1 :: .skip :: .skip :: .list true [] :: .int .i64 0 :: .int .i64 0 :: .list true [] :: .int .i64 i2 :: .skip :: .skip :: .undef :: U4 (.skip :: U8 (U4 (U2 (.skip :: .undef :: .skip :: U16 (U4 (U2 []))))))
def K0 (q : Caller) (n : Nat) (K : KT) : Cont := (fK (En n) 54 K)
def S1 (t0 : ByteArray) (b1 : Bool) (r2 : List (List PV)) (i3 : Int) (p4 p5 p6 p7 p8 : PV) : List PV := .str t0 :: .bool b1 :: .skip :: .skip :: .list true [] :: .int .i64 0 :: .int .i64 0 :: .list true r2 :: .int .i64 i3 :: p4 :: p5 :: .undef :: U4 (p6 :: U8 (U4 (U2 (p7 :: .undef :: p8 :: U16 (U4 (U2 []))))))
def K1 (q : Caller) (n : Nat) (K : KT) : Cont := (blockK 0 (sK (En n) cutsOf q 54 [1, 1, 1, 1] (fK (En n) 54 K)))
def S2 (t0 : ByteArray) (b1 : Bool) (r2 : List (List PV)) (i3 i4 : Int) (t5 : ByteArray) (i6 i7 i8 : Int) (b9 : Bool) (p10 p11 : PV) : List PV := .str t0 :: .bool b1 :: .skip :: .skip :: .list true [] :: .int .i64 0 :: .int .i64 0 :: .list true r2 :: .int .i64 i3 :: .box [.int .i64 i4, .str t5, .int .i64 i6, .int .i64 i7] :: .int .i64 i8 :: .undef :: U4 (.bool b9 :: U8 (U4 (U2 (p10 :: .undef :: p11 :: U16 (U4 (U2 []))))))
def K2 (q : Caller) (n m1 : Nat) (K : KT) : Cont := (blockK 1 (lK (En n) q 54 [1, 1, 1, 0, 0, 0] (blockK 0 (sK (En n) cutsOf q 54 [1, 1, 1, 1] (fK (En n) 54 K))) m1))
def S3 (t0 : ByteArray) (b1 : Bool) (r2 : List (List PV)) (i3 i4 : Int) (t5 : ByteArray) (i6 i7 i8 : Int) (b9 b10 : Bool) (p11 : PV) : List PV := .str t0 :: .bool b1 :: .skip :: .skip :: .list true [] :: .int .i64 0 :: .int .i64 0 :: .list true r2 :: .int .i64 i3 :: .box [.int .i64 i4, .str t5, .int .i64 i6, .int .i64 i7] :: .int .i64 i8 :: .undef :: U4 (.bool b9 :: U8 (U4 (U2 (.bool b10 :: .undef :: p11 :: U16 (U4 (U2 []))))))
def K3 (q : Caller) (n m1 : Nat) (K : KT) : Cont := (blockK 1 (lK (En n) q 54 [1, 1, 1, 0, 0, 0] (blockK 0 (sK (En n) cutsOf q 54 [1, 1, 1, 1] (fK (En n) 54 K))) m1))
theorem cut0 : T n q 54 [1, 1, 1] (S0 t0 b1 i2) sg (K0 q n K) =
  (L n q 54 [1, 1, 1, 0, 0, 0] (S1 t0 b1 [] i2 PV.skip PV.skip PV.skip PV.skip PV.skip) sg (K1 q n K) n) := by kernel_rfl
theorem loop1 : T n q 54 [1, 1, 1, 0, 0, 0] (S1 t0 b1 r2 i3 p4 p5 p6 p7 p8) sg (lK (En n) q 54 [1, 1, 1, 0, 0, 0] (K1 q n K) m1) =
  (bcond (decide (i3 < (t0.size : Int))) (chk ((decide (0 ≤ i3)) && ((decide (i3 ≤ (t0.size : Int))) && (decide ((t0.size : Int) ≤ (t0.size : Int))))) (cP q 110 [.str (t0.extract i3.toNat (t0.size : Int).toNat), .bool b1] sg (pan K) fun r202 sg201 => exV (((r202).strip).strip) 0 fun v203 => chk ((v203).isAgg && (((v203).aggC).length == 4)) (chk (((((v203).aggC).getD 0 .undef)).isI .i64) (chk (((((v203).aggC).getD 1 .undef)).isS) (chk (((((v203).aggC).getD 2 .undef)).isI .i64) (chk (((((v203).aggC).getD 3 .undef)).isI .i64) (exV (((r202).strip).strip) 1 fun v204 => chk ((v204).isI .i64) (chk (!(isBaddr 9 p4 || (isBaddr 9 p5 || (isBaddr 9 ((r202).strip) || (isBaddr 9 r202 || (isBaddr 9 p7 || (isBaddr 9 p8 || false))))))) (C n q 54 [1, 1, 1, 0, 0, 0, 1, 0, 1] (S2 t0 b1 r2 i3 (((((v203).aggC).getD 0 .undef)).toI) (((((v203).aggC).getD 1 .undef)).toS) (((((v203).aggC).getD 2 .undef)).toI) (((((v203).aggC).getD 3 .undef)).toI) ((v204).toI) (decide (i3 < (t0.size : Int))) p7 p8) sg201 (K2 q n m1 K)))))))))) (K ⟨false, .tup [.list false r2, .int .i64 0, .int .i64 0]⟩ sg)) := by kernel_rfl
theorem cut2 : T n q 54 [1, 1, 1, 0, 0, 0, 1, 0, 1] (S2 t0 b1 r2 i3 i4 t5 i6 i7 i8 b9 p10 p11) sg (K2 q n m1 K) =
  (bcond (i8 == 0) (bcond ((r2.length : Int) == 600) (C n q 54 [1, 1, 1, 0, 0, 0, 1, 0, 1, 1] (S3 t0 b1 r2 i3 i4 t5 i6 i7 4 b9 ((r2.length : Int) == 600) p11) sg (K3 q n m1 K)) (C n q 54 [1, 1, 1, 0, 0, 0, 1, 0, 1, 1] (S3 t0 b1 r2 i3 i4 t5 i6 i7 i8 b9 ((r2.length : Int) == 600) p11) sg (K3 q n m1 K))) (C n q 54 [1, 1, 1, 0, 0, 0, 1, 0, 1, 1] (S3 t0 b1 r2 i3 i4 t5 i6 i7 i8 b9 false p11) sg (K3 q n m1 K))) := by kernel_rfl
theorem cut3 : T n q 54 [1, 1, 1, 0, 0, 0, 1, 0, 1, 1] (S3 t0 b1 r2 i3 i4 t5 i6 i7 i8 b9 b10 p11) sg (K3 q n m1 K) =
  (bcond (i8 != 0) (K ⟨false, .tup [.list false [], .int .i64 i3, .int .i64 i8]⟩ sg) (chk ((rowsOk 4 r2) && (decide ((r2.length + 1) ≤ mostL))) (chk ((decide (0 ≤ (IntKind.i64.wrap (i3 + i7)))) && ((decide ((IntKind.i64.wrap (i3 + i7)) ≤ (t0.size : Int))) && (decide ((t0.size : Int) ≤ (t0.size : Int))))) (cI q 109 [.str (t0.extract (IntKind.i64.wrap (i3 + i7)).toNat (t0.size : Int).toNat)] sg (pan K) fun i402 sg401 => L n q 54 [1, 1, 1, 0, 0, 0] (S1 t0 b1 (r2 ++ [[PV.int .i64 i4, .str t5, .int .i64 i3, .int .i64 (IntKind.i64.wrap (i3 + i7))]]) (IntKind.i64.wrap ((IntKind.i64.wrap (i3 + i7)) + i402)) (PV.box [.int .i64 i4, .str t5, .int .i64 i3, .int .i64 (IntKind.i64.wrap (i3 + i7))]) (PV.int .i64 i8) (PV.bool b9) (PV.bool b10) (PV.bool (i8 != 0))) sg401 (K1 q n K) m1)))) := by kernel_rfl
theorem eq (a0 : ByteArray) (a1 : Bool) : B n q 54 sg [.str a0, .bool a1] K =
  (cI q 109 [.str a0] sg (pan K) fun i2 sg1 => C n q 54 [1, 1, 1] (S0 a0 a1 i2) sg1 (K0 q n K)) := by kernel_rfl
end token_scan
namespace token_skip
def S0 (t0 : ByteArray) (i1 : Int) (p2 p3 p4 p5 p6 : PV) : List PV := .str t0 :: .skip :: .int .i64 0 :: .int .i64 i1 :: p2 :: .undef :: .undef :: .undef :: p3 :: .undef :: p4 :: U16 (U2 (p5 :: .undef :: U8 (p6 :: U4 (U2 []))))
def K0 (q : Caller) (n : Nat) (K : KT) : Cont := (blockK 0 (sK (En n) cutsOf q 109 [1, 1, 1] (fK (En n) 109 K)))
def S1 (t0 : ByteArray) (i1 i2 : Int) (b3 b4 b5 : Bool) (p6 : PV) : List PV := .str t0 :: .skip :: .int .i64 0 :: .int .i64 i1 :: .int .i64 i2 :: .undef :: .undef :: .undef :: .bool b3 :: .undef :: .bool b4 :: U16 (U2 (.bool b5 :: .undef :: U8 (p6 :: U4 (U2 []))))
def K1 (q : Caller) (n m0 : Nat) (K : KT) : Cont := (blockK 2 (blockK 1 (lK (En n) q 109 [1, 1, 0, 0, 0] (blockK 0 (sK (En n) cutsOf q 109 [1, 1, 1] (fK (En n) 109 K))) m0)))
theorem loop0 : T n q 109 [1, 1, 0, 0, 0] (S0 t0 i1 p2 p3 p4 p5 p6) sg (lK (En n) q 109 [1, 1, 0, 0, 0] (K0 q n K) m0) =
  (bcond (decide (i1 < (t0.size : Int))) (chk ((decide (0 ≤ i1)) && (decide (i1 < (t0.size : Int)))) (bcond ((byteAt t0 i1) == 32) (L n q 109 [1, 1, 0, 0, 0] (S0 t0 (IntKind.i64.wrap (i1 + 1)) p2 (PV.bool (decide (i1 < (t0.size : Int)))) (PV.bool true) p5 p6) sg (K0 q n K) m0) (chk ((decide (0 ≤ i1)) && (decide (i1 < (t0.size : Int)))) (bcond ((byteAt t0 i1) == 9) (L n q 109 [1, 1, 0, 0, 0] (S0 t0 (IntKind.i64.wrap (i1 + 1)) p2 (PV.bool (decide (i1 < (t0.size : Int)))) (PV.bool true) p5 p6) sg (K0 q n K) m0) (chk ((decide (0 ≤ i1)) && (decide (i1 < (t0.size : Int)))) (bcond ((byteAt t0 i1) == 10) (L n q 109 [1, 1, 0, 0, 0] (S0 t0 (IntKind.i64.wrap (i1 + 1)) p2 (PV.bool (decide (i1 < (t0.size : Int)))) (PV.bool ((byteAt t0 i1) == 10)) p5 p6) sg (K0 q n K) m0) (chk ((decide (0 ≤ i1)) && ((decide (i1 ≤ (t0.size : Int))) && (decide ((t0.size : Int) ≤ (t0.size : Int))))) (cB q 142 [.str (t0.extract i1.toNat (t0.size : Int).toNat), .str (⟨#[47, 47]⟩ : ByteArray)] sg (pan K) fun b102 sg101 => bcond b102 (chk ((decide (0 ≤ i1)) && ((decide (i1 ≤ (t0.size : Int))) && (decide ((t0.size : Int) ≤ (t0.size : Int))))) (cI q 143 [.str (t0.extract i1.toNat (t0.size : Int).toNat), .int .u8 10] sg101 (pan K) fun i104 sg103 => C n q 109 [1, 1, 0, 0, 0, 1, 0, 0, 1, 1, 1, 0, 1] (S1 t0 i1 i104 (decide (i1 < (t0.size : Int))) ((byteAt t0 i1) == 10) b102 p6) sg103 (K1 q n m0 K))) (K ⟨false, .int .i64 i1⟩ sg101))))))))) (K ⟨false, .int .i64 i1⟩ sg)) := by kernel_rfl
theorem cut1 : T n q 109 [1, 1, 0, 0, 0, 1, 0, 0, 1, 1, 1, 0, 1] (S1 t0 i1 i2 b3 b4 b5 p6) sg (K1 q n m0 K) =
  (bcond (decide (i2 < 0)) (K ⟨false, .int .i64 (t0.size : Int)⟩ sg) (L n q 109 [1, 1, 0, 0, 0] (S0 t0 (IntKind.i64.wrap (i1 + i2)) (PV.int .i64 i2) (PV.bool b3) (PV.bool b4) (PV.bool b5) (PV.bool (decide (i2 < 0)))) sg (K0 q n K) m0)) := by kernel_rfl
theorem eq (a0 : ByteArray) : B n q 109 sg [.str a0] K =
  (L n q 109 [1, 1, 0, 0, 0] (S0 a0 0 PV.skip PV.skip PV.skip PV.skip PV.skip) sg (K0 q n K) n) := by kernel_rfl
end token_skip
namespace token_read
def S0 (t0 : ByteArray) (b1 : Bool) (i2 : Int) (t3 : ByteArray) (b4 : Bool) : List PV := .str t0 :: .bool b1 :: .skip :: .skip :: .box ([.int .i64 0, .str (⟨#[]⟩ : ByteArray), .int .i64 0, .int .i64 0]) :: .int .i64 0 :: .int .u8 i2 :: .str t3 :: .skip :: .skip :: .undef :: .undef :: .bool b4 :: .undef :: U8 (.skip :: .undef :: .undef :: .undef :: .skip :: .undef :: .undef :: .skip :: U4 (U2 (.skip :: U4 (U2 (.skip :: .undef :: U8 (U4 (.skip :: .undef :: U4 (.skip :: U4 (U2 [])))))))))
def K0 (q : Caller) (n : Nat) (K : KT) : Cont := (blockK 0 (sK (En n) cutsOf q 110 [1, 1] (fK (En n) 110 K)))
def S1 (t0 : ByteArray) (b1 : Bool) (i2 : Int) (b3 b4 b5 b6 : Bool) : List PV := .str t0 :: .bool b1 :: .skip :: .skip :: .box ([.int .i64 0, .str (⟨#[]⟩ : ByteArray), .int .i64 0, .int .i64 0]) :: .int .i64 0 :: .int .u8 i2 :: .skip :: .skip :: .skip :: .undef :: .undef :: .bool b3 :: .undef :: U8 (.skip :: .undef :: .undef :: .undef :: .skip :: .undef :: .undef :: .bool b4 :: U4 (U2 (.bool b5 :: U4 (U2 (.bool b6 :: .undef :: U8 (U4 (.skip :: .undef :: U4 (.skip :: U4 (U2 [])))))))))
def K1 (q : Caller) (n : Nat) (K : KT) : Cont := (fK (En n) 110 K)
def S2 (t0 : ByteArray) (b1 : Bool) (i2 i3 : Int) (b4 b5 b6 b7 : Bool) (p8 p9 : PV) : List PV := .str t0 :: .bool b1 :: .skip :: .skip :: .box ([.int .i64 0, .str (⟨#[]⟩ : ByteArray), .int .i64 0, .int .i64 0]) :: .int .i64 0 :: .int .u8 i2 :: .skip :: .skip :: .int .i64 i3 :: .undef :: .undef :: .bool b4 :: .undef :: U8 (.skip :: .undef :: .undef :: .undef :: .skip :: .undef :: .undef :: .bool b5 :: U4 (U2 (.bool b6 :: U4 (U2 (.bool b7 :: .undef :: U8 (U4 (p8 :: .undef :: U4 (p9 :: U4 (U2 [])))))))))
def K2 (q : Caller) (n : Nat) (K : KT) : Cont := (blockK 1 (sK (En n) cutsOf q 110 [1, 1, 1] (fK (En n) 110 K)))
theorem cut0 : T n q 110 [1, 0, 1, 0, 1, 0, 1] (S0 t0 b1 i2 t3 b4) sg (K0 q n K) =
  (cB q 94 [.str t3] sg (pan K) fun b102 sg101 => bcond b102 (K ⟨false, .tup [.agg [.int .i64 2, .str t3, .int .i64 0, .int .i64 (t3.size : Int)], .int .i64 0]⟩ sg101) (bcond (decide ((t3.size : Int) > 24)) (K ⟨false, .tup [.agg ([.int .i64 0, .str (⟨#[]⟩ : ByteArray), .int .i64 0, .int .i64 0]), .int .i64 4]⟩ sg101) (K ⟨false, .tup [.agg [.int .i64 1, .str t3, .int .i64 0, .int .i64 (t3.size : Int)], .int .i64 0]⟩ sg101))) := by kernel_rfl
theorem cut1 : T n q 110 [1, 1] (S1 t0 b1 i2 b3 b4 b5 b6) sg (K1 q n K) =
  (L n q 110 [1, 1, 0, 1, 0, 0] (S2 t0 b1 i2 (bcond (decide ((t0.size : Int) < 2)) (t0.size : Int) 2) b3 b4 b5 b6 PV.skip PV.skip) sg (K2 q n K) n) := by kernel_rfl
theorem loop2 : T n q 110 [1, 1, 0, 1, 0, 0] (S2 t0 b1 i2 i3 b4 b5 b6 b7 p8 p9) sg (lK (En n) q 110 [1, 1, 0, 1, 0, 0] (K2 q n K) m2) =
  (bcond (decide (i3 > 0)) (chk ((decide (0 ≤ i3)) && (decide (i3 ≤ (t0.size : Int)))) (cB q 150 [.str (t0.extract 0 i3.toNat)] sg (pan K) fun b302 sg301 => bcond b302 (chk ((decide (0 ≤ i3)) && (decide (i3 ≤ (t0.size : Int)))) (K ⟨false, .tup [.agg [.int .i64 5, .str (t0.extract 0 i3.toNat), .int .i64 0, .int .i64 i3], .int .i64 0]⟩ sg301)) (L n q 110 [1, 1, 0, 1, 0, 0] (S2 t0 b1 i2 (IntKind.i64.wrap (i3 - 1)) b4 b5 b6 b7 (PV.bool (decide (i3 > 0))) (PV.bool b302)) sg301 (K2 q n K) m2))) (K ⟨false, .tup [.agg ([.int .i64 0, .str (⟨#[]⟩ : ByteArray), .int .i64 0, .int .i64 0]), .int .i64 11]⟩ sg)) := by kernel_rfl
theorem eq (a0 : ByteArray) (a1 : Bool) : B n q 110 sg [.str a0, .bool a1] K =
  (chk (decide (0 < (a0.size : Int))) (cB q 144 [.int .u8 (byteAt a0 0)] sg (pan K) fun b2 sg1 => bcond b2 (cS q 145 [.str a0] sg1 (pan K) fun t4 sg3 => C n q 110 [1, 0, 1, 0, 1, 0, 1] (S0 a0 a1 (byteAt a0 0) t4 b2) sg3 (K0 q n K)) (cB q 146 [.int .u8 (byteAt a0 0)] sg1 (pan K) fun b6 sg5 => bcond b6 (cP q 147 [.str a0] sg5 (pan K) fun r8 sg7 => exV ((r8).strip) 0 fun v9 => chk ((v9).isAgg && (((v9).aggC).length == 4)) (chk (((((v9).aggC).getD 0 .undef)).isI .i64) (chk (((((v9).aggC).getD 1 .undef)).isS) (chk (((((v9).aggC).getD 2 .undef)).isI .i64) (chk (((((v9).aggC).getD 3 .undef)).isI .i64) (exV ((r8).strip) 1 fun v10 => chk ((v10).isI .i64) (K ⟨false, .tup [.agg [.int .i64 (((((v9).aggC).getD 0 .undef)).toI), .str (((((v9).aggC).getD 1 .undef)).toS), .int .i64 (((((v9).aggC).getD 2 .undef)).toI), .int .i64 (((((v9).aggC).getD 3 .undef)).toI)], .int .i64 ((v10).toI)]⟩ sg7))))))) (bcond ((byteAt a0 0) == 34) (cP q 148 [.str a0] sg5 (pan K) fun r12 sg11 => exV ((r12).strip) 0 fun v13 => chk ((v13).isAgg && (((v13).aggC).length == 4)) (chk (((((v13).aggC).getD 0 .undef)).isI .i64) (chk (((((v13).aggC).getD 1 .undef)).isS) (chk (((((v13).aggC).getD 2 .undef)).isI .i64) (chk (((((v13).aggC).getD 3 .undef)).isI .i64) (exV ((r12).strip) 1 fun v14 => chk ((v14).isI .i64) (K ⟨false, .tup [.agg [.int .i64 (((((v13).aggC).getD 0 .undef)).toI), .str (((((v13).aggC).getD 1 .undef)).toS), .int .i64 (((((v13).aggC).getD 2 .undef)).toI), .int .i64 (((((v13).aggC).getD 3 .undef)).toI)], .int .i64 ((v14).toI)]⟩ sg11))))))) (bcond ((byteAt a0 0) == 36) (bcond a1 (cP q 149 [.str a0] sg5 (pan K) fun r16 sg15 => exV ((r16).strip) 0 fun v17 => chk ((v17).isAgg && (((v17).aggC).length == 4)) (chk (((((v17).aggC).getD 0 .undef)).isI .i64) (chk (((((v17).aggC).getD 1 .undef)).isS) (chk (((((v17).aggC).getD 2 .undef)).isI .i64) (chk (((((v17).aggC).getD 3 .undef)).isI .i64) (exV ((r16).strip) 1 fun v18 => chk ((v18).isI .i64) (K ⟨false, .tup [.agg [.int .i64 (((((v17).aggC).getD 0 .undef)).toI), .str (((((v17).aggC).getD 1 .undef)).toS), .int .i64 (((((v17).aggC).getD 2 .undef)).toI), .int .i64 (((((v17).aggC).getD 3 .undef)).toI)], .int .i64 ((v18).toI)]⟩ sg15))))))) (C n q 110 [1, 1] (S1 a0 a1 (byteAt a0 0) b2 b6 ((byteAt a0 0) == 34) a1) sg5 (K1 q n K))) (C n q 110 [1, 1] (S1 a0 a1 (byteAt a0 0) b2 b6 ((byteAt a0 0) == 34) false) sg5 (K1 q n K))))))) := by kernel_rfl
end token_read
namespace token_letter
theorem eq (a0 : Int) : B n q 144 sg [.int .u8 a0] K =
  (bcond (decide (a0 ≥ 97)) (bcond (decide (a0 ≤ 122)) (K ⟨false, .bool true⟩ sg) (bcond (decide (a0 ≥ 65)) (bcond (decide (a0 ≤ 90)) (K ⟨false, .bool true⟩ sg) (K ⟨false, .bool (a0 == 95)⟩ sg)) (K ⟨false, .bool (a0 == 95)⟩ sg))) (bcond (decide (a0 ≥ 65)) (bcond (decide (a0 ≤ 90)) (K ⟨false, .bool true⟩ sg) (K ⟨false, .bool (a0 == 95)⟩ sg)) (K ⟨false, .bool (a0 == 95)⟩ sg))) := by kernel_rfl
end token_letter
namespace token_word
def S0 (t0 : ByteArray) (i1 : Int) (p2 : PV) : List PV := .str t0 :: .skip :: .str (⟨#[]⟩ : ByteArray) :: .int .i64 i1 :: .undef :: U8 (U4 (U2 (p2 :: .undef :: U4 [])))
def K0 (q : Caller) (n : Nat) (K : KT) : Cont := (blockK 0 (sK (En n) cutsOf q 145 [1, 1, 1] (fK (En n) 145 K)))
theorem loop0 : T n q 145 [1, 1, 0, 0, 0] (S0 t0 i1 p2) sg (lK (En n) q 145 [1, 1, 0, 0, 0] (K0 q n K) m0) =
  (bcond (decide (i1 < (t0.size : Int))) (chk ((decide (0 ≤ i1)) && (decide (i1 < (t0.size : Int)))) (cB q 144 [.int .u8 (byteAt t0 i1)] sg (pan K) fun b102 sg101 => bcond b102 (L n q 145 [1, 1, 0, 0, 0] (S0 t0 (IntKind.i64.wrap (i1 + 1)) (PV.bool true)) sg101 (K0 q n K) m0) (chk ((decide (0 ≤ i1)) && (decide (i1 < (t0.size : Int)))) (cB q 146 [.int .u8 (byteAt t0 i1)] sg101 (pan K) fun b104 sg103 => bcond b104 (L n q 145 [1, 1, 0, 0, 0] (S0 t0 (IntKind.i64.wrap (i1 + 1)) (PV.bool b104)) sg103 (K0 q n K) m0) (chk ((decide (0 ≤ i1)) && (decide (i1 ≤ (t0.size : Int)))) (K ⟨false, .str (t0.extract 0 i1.toNat)⟩ sg103)))))) (chk ((decide (0 ≤ i1)) && (decide (i1 ≤ (t0.size : Int)))) (K ⟨false, .str (t0.extract 0 i1.toNat)⟩ sg))) := by kernel_rfl
theorem eq (a0 : ByteArray) : B n q 145 sg [.str a0] K =
  (L n q 145 [1, 1, 0, 0, 0] (S0 a0 0 PV.skip) sg (K0 q n K) n) := by kernel_rfl
end token_word
namespace token_digit
theorem eq (a0 : Int) : B n q 146 sg [.int .u8 a0] K =
  (bcond (decide (a0 ≥ 48)) (K ⟨false, .bool (decide (a0 ≤ 57))⟩ sg) (K ⟨false, .bool false⟩ sg)) := by kernel_rfl
end token_digit
namespace token_integer
def S0 (t0 : ByteArray) (i1 : Int) (p2 : PV) : List PV := .str t0 :: .skip :: .box ([.int .i64 0, .str (⟨#[]⟩ : ByteArray), .int .i64 0, .int .i64 0]) :: .int .i64 0 :: .int .i64 i1 :: .undef :: U8 (p2 :: .undef :: .undef :: .skip :: U8 (.skip :: U8 []))
def K0 (q : Caller) (n : Nat) (K : KT) : Cont := (blockK 0 (sK (En n) cutsOf q 147 [1, 1, 1] (fK (En n) 147 K)))
def S1 (t0 : ByteArray) (i1 : Int) (b2 : Bool) : List PV := .str t0 :: .skip :: .box ([.int .i64 0, .str (⟨#[]⟩ : ByteArray), .int .i64 0, .int .i64 0]) :: .int .i64 0 :: .int .i64 i1 :: .undef :: U8 (.bool b2 :: .undef :: .undef :: .skip :: U8 (.skip :: U8 []))
def K1 (q : Caller) (n : Nat) (K : KT) : Cont := (fK (En n) 147 K)
theorem loop0 : T n q 147 [1, 1, 0, 0, 0] (S0 t0 i1 p2) sg (lK (En n) q 147 [1, 1, 0, 0, 0] (K0 q n K) m0) =
  (bcond (decide (i1 < (t0.size : Int))) (chk ((decide (0 ≤ i1)) && (decide (i1 < (t0.size : Int)))) (cB q 146 [.int .u8 (byteAt t0 i1)] sg (pan K) fun b102 sg101 => bcond b102 (L n q 147 [1, 1, 0, 0, 0] (S0 t0 (IntKind.i64.wrap (i1 + 1)) (PV.bool b102)) sg101 (K0 q n K) m0) (C n q 147 [1, 1, 1] (S1 t0 i1 b102) sg101 (K1 q n K)))) (C n q 147 [1, 1, 1] (S1 t0 i1 false) sg (K1 q n K))) := by kernel_rfl
theorem cut1 : T n q 147 [1, 1, 1] (S1 t0 i1 b2) sg (K1 q n K) =
  (chk (decide (0 < (t0.size : Int))) (bcond ((byteAt t0 0) == 48) (bcond (decide (i1 > 1)) (K ⟨false, .tup [.agg ([.int .i64 0, .str (⟨#[]⟩ : ByteArray), .int .i64 0, .int .i64 0]), .int .i64 11]⟩ sg) (bcond (decide (i1 > 9)) (K ⟨false, .tup [.agg ([.int .i64 0, .str (⟨#[]⟩ : ByteArray), .int .i64 0, .int .i64 0]), .int .i64 4]⟩ sg) (chk ((decide (0 ≤ i1)) && (decide (i1 ≤ (t0.size : Int)))) (K ⟨false, .tup [.agg [.int .i64 3, .str (t0.extract 0 i1.toNat), .int .i64 0, .int .i64 i1], .int .i64 0]⟩ sg)))) (bcond (decide (i1 > 9)) (K ⟨false, .tup [.agg ([.int .i64 0, .str (⟨#[]⟩ : ByteArray), .int .i64 0, .int .i64 0]), .int .i64 4]⟩ sg) (chk ((decide (0 ≤ i1)) && (decide (i1 ≤ (t0.size : Int)))) (K ⟨false, .tup [.agg [.int .i64 3, .str (t0.extract 0 i1.toNat), .int .i64 0, .int .i64 i1], .int .i64 0]⟩ sg))))) := by kernel_rfl
theorem eq (a0 : ByteArray) : B n q 147 sg [.str a0] K =
  (L n q 147 [1, 1, 0, 0, 0] (S0 a0 0 PV.skip) sg (K0 q n K) n) := by kernel_rfl
end token_integer
namespace token_meta
def S0 (t0 : ByteArray) (i1 i2 : Int) (b3 : Bool) : List PV := .str t0 :: .skip :: .box ([.int .i64 0, .str (⟨#[]⟩ : ByteArray), .int .i64 0, .int .i64 0]) :: .int .i64 0 :: .box ([.int .i64 i1, .str (⟨#[]⟩ : ByteArray), .int .i64 0, .int .i64 0]) :: .int .i64 i2 :: .undef :: .undef :: .bool b3 :: .undef :: U8 (U4 (U2 (.skip :: U4 [.skip, .undef, .undef])))
def K0 (q : Caller) (n : Nat) (K : KT) : Cont := (fK (En n) 149 K)
def S1 (t0 : ByteArray) (i1 : Int) (t2 : ByteArray) (i3 : Int) (b4 : Bool) : List PV := .str t0 :: .skip :: .box ([.int .i64 0, .str (⟨#[]⟩ : ByteArray), .int .i64 0, .int .i64 0]) :: .int .i64 0 :: .box [.int .i64 i1, .str t2, .int .i64 0, .int .i64 0] :: .int .i64 i3 :: .undef :: .undef :: .bool b4 :: .undef :: U8 (U4 (U2 (.skip :: U4 [.skip, .undef, .undef])))
def K1 (q : Caller) (n : Nat) (K : KT) : Cont := (fK (En n) 149 K)
def S2 (t0 : ByteArray) (i1 : Int) (t2 : ByteArray) (i3 i4 : Int) (b5 b6 : Bool) : List PV := .str t0 :: .skip :: .box ([.int .i64 0, .str (⟨#[]⟩ : ByteArray), .int .i64 0, .int .i64 0]) :: .int .i64 0 :: .box [.int .i64 i1, .str t2, .int .i64 0, .int .i64 i3] :: .int .i64 i4 :: .undef :: .undef :: .bool b5 :: .undef :: U8 (U4 (U2 (.bool b6 :: U4 [.skip, .undef, .undef])))
def K2 (q : Caller) (n : Nat) (K : KT) : Cont := (fK (En n) 149 K)
theorem cut0 : T n q 149 [1, 1, 1, 1] (S0 t0 i1 i2 b3) sg (K0 q n K) =
  (chk ((decide (0 ≤ i2)) && ((decide (i2 ≤ (t0.size : Int))) && (decide ((t0.size : Int) ≤ (t0.size : Int))))) (cS q 145 [.str (t0.extract i2.toNat (t0.size : Int).toNat)] sg (pan K) fun t102 sg101 => C n q 149 [1, 1, 1, 1, 1] (S1 t0 i1 t102 i2 b3) sg101 (K1 q n K))) := by kernel_rfl
theorem cut1 : T n q 149 [1, 1, 1, 1, 1] (S1 t0 i1 t2 i3 b4) sg (K1 q n K) =
  (cB q 176 [.str t2] sg (pan K) fun b202 sg201 => bcond (!b202) (K ⟨false, .tup [.agg ([.int .i64 0, .str (⟨#[]⟩ : ByteArray), .int .i64 0, .int .i64 0]), .int .i64 11]⟩ sg201) (C n q 149 [1, 1, 1, 1, 1, 1, 1] (S2 t0 i1 t2 (IntKind.i64.wrap (i3 + (t2.size : Int))) i3 b4 (!b202)) sg201 (K2 q n K))) := by kernel_rfl
theorem cut2 : T n q 149 [1, 1, 1, 1, 1, 1, 1] (S2 t0 i1 t2 i3 i4 b5 b6) sg (K2 q n K) =
  (bcond (decide ((t2.size : Int) > 24)) (K ⟨false, .tup [.agg ([.int .i64 0, .str (⟨#[]⟩ : ByteArray), .int .i64 0, .int .i64 0]), .int .i64 4]⟩ sg) (K ⟨false, .tup [.agg [.int .i64 i1, .str t2, .int .i64 0, .int .i64 i3], .int .i64 0]⟩ sg)) := by kernel_rfl
theorem eq (a0 : ByteArray) : B n q 149 sg [.str a0] K =
  (cB q 142 [.str a0, .str (⟨#[36, 36]⟩ : ByteArray)] sg (pan K) fun b2 sg1 => bcond b2 (C n q 149 [1, 1, 1, 1] (S0 a0 7 2 b2) sg1 (K0 q n K)) (C n q 149 [1, 1, 1, 1] (S0 a0 6 1 b2) sg1 (K0 q n K))) := by kernel_rfl
end token_meta
namespace token_mark
theorem eq (a0 : ByteArray) : B n q 150 sg [.str a0] K =
  (bcond (a0.toList == (⟨#[123]⟩ : ByteArray).toList) (bcond (a0.toList == (⟨#[123]⟩ : ByteArray).toList) (K ⟨false, .bool true⟩ sg) (K ⟨false, .bool false⟩ sg)) (bcond (a0.toList == (⟨#[125]⟩ : ByteArray).toList) (bcond (a0.toList == (⟨#[125]⟩ : ByteArray).toList) (K ⟨false, .bool true⟩ sg) (K ⟨false, .bool false⟩ sg)) (bcond (a0.toList == (⟨#[40]⟩ : ByteArray).toList) (bcond (a0.toList == (⟨#[40]⟩ : ByteArray).toList) (K ⟨false, .bool true⟩ sg) (K ⟨false, .bool false⟩ sg)) (bcond (a0.toList == (⟨#[41]⟩ : ByteArray).toList) (bcond (a0.toList == (⟨#[41]⟩ : ByteArray).toList) (K ⟨false, .bool true⟩ sg) (K ⟨false, .bool false⟩ sg)) (bcond (a0.toList == (⟨#[59]⟩ : ByteArray).toList) (bcond (a0.toList == (⟨#[59]⟩ : ByteArray).toList) (K ⟨false, .bool true⟩ sg) (K ⟨false, .bool false⟩ sg)) (bcond (a0.toList == (⟨#[44]⟩ : ByteArray).toList) (bcond (a0.toList == (⟨#[44]⟩ : ByteArray).toList) (K ⟨false, .bool true⟩ sg) (K ⟨false, .bool false⟩ sg)) (bcond (a0.toList == (⟨#[58]⟩ : ByteArray).toList) (bcond (a0.toList == (⟨#[58]⟩ : ByteArray).toList) (K ⟨false, .bool true⟩ sg) (K ⟨false, .bool false⟩ sg)) (bcond (a0.toList == (⟨#[46]⟩ : ByteArray).toList) (bcond (a0.toList == (⟨#[46]⟩ : ByteArray).toList) (K ⟨false, .bool true⟩ sg) (K ⟨false, .bool false⟩ sg)) (bcond (a0.toList == (⟨#[61]⟩ : ByteArray).toList) (bcond (a0.toList == (⟨#[61]⟩ : ByteArray).toList) (K ⟨false, .bool true⟩ sg) (K ⟨false, .bool false⟩ sg)) (bcond (a0.toList == (⟨#[61, 61]⟩ : ByteArray).toList) (bcond (a0.toList == (⟨#[61, 61]⟩ : ByteArray).toList) (K ⟨false, .bool true⟩ sg) (K ⟨false, .bool false⟩ sg)) (bcond (a0.toList == (⟨#[33, 61]⟩ : ByteArray).toList) (bcond (a0.toList == (⟨#[33, 61]⟩ : ByteArray).toList) (K ⟨false, .bool true⟩ sg) (K ⟨false, .bool false⟩ sg)) (bcond (a0.toList == (⟨#[60]⟩ : ByteArray).toList) (bcond (a0.toList == (⟨#[60]⟩ : ByteArray).toList) (K ⟨false, .bool true⟩ sg) (K ⟨false, .bool false⟩ sg)) (bcond (a0.toList == (⟨#[62]⟩ : ByteArray).toList) (bcond (a0.toList == (⟨#[62]⟩ : ByteArray).toList) (K ⟨false, .bool true⟩ sg) (K ⟨false, .bool false⟩ sg)) (bcond (a0.toList == (⟨#[43]⟩ : ByteArray).toList) (bcond (a0.toList == (⟨#[43]⟩ : ByteArray).toList) (K ⟨false, .bool true⟩ sg) (K ⟨false, .bool false⟩ sg)) (bcond (a0.toList == (⟨#[45]⟩ : ByteArray).toList) (bcond (a0.toList == (⟨#[45]⟩ : ByteArray).toList) (K ⟨false, .bool true⟩ sg) (K ⟨false, .bool false⟩ sg)) (bcond (a0.toList == (⟨#[42]⟩ : ByteArray).toList) (bcond (a0.toList == (⟨#[42]⟩ : ByteArray).toList) (K ⟨false, .bool true⟩ sg) (K ⟨false, .bool false⟩ sg)) (bcond (a0.toList == (⟨#[47]⟩ : ByteArray).toList) (bcond (a0.toList == (⟨#[47]⟩ : ByteArray).toList) (K ⟨false, .bool true⟩ sg) (K ⟨false, .bool false⟩ sg)) (bcond (a0.toList == (⟨#[37]⟩ : ByteArray).toList) (bcond (a0.toList == (⟨#[37]⟩ : ByteArray).toList) (K ⟨false, .bool true⟩ sg) (K ⟨false, .bool false⟩ sg)) (bcond (a0.toList == (⟨#[33]⟩ : ByteArray).toList) (bcond (a0.toList == (⟨#[33]⟩ : ByteArray).toList) (K ⟨false, .bool true⟩ sg) (K ⟨false, .bool false⟩ sg)) (bcond (a0.toList == (⟨#[38, 38]⟩ : ByteArray).toList) (bcond (a0.toList == (⟨#[38, 38]⟩ : ByteArray).toList) (K ⟨false, .bool true⟩ sg) (K ⟨false, .bool false⟩ sg)) (bcond (a0.toList == (⟨#[124, 124]⟩ : ByteArray).toList) (K ⟨false, .bool true⟩ sg) (K ⟨false, .bool false⟩ sg)))))))))))))))))))))) := by kernel_rfl
end token_mark
namespace token_name
theorem eq (a0 : ByteArray) : B n q 176 sg [.str a0] K =
  (bcond (!(a0.toList == (⟨#[]⟩ : ByteArray).toList)) (chk (decide (0 < (a0.size : Int))) (cB q 144 [.int .u8 (byteAt a0 0)] sg (pan K) fun b2 sg1 => bcond b2 (cS q 145 [.str a0] sg1 (pan K) fun t4 sg3 => bcond (t4.toList == a0.toList) (cB q 94 [.str a0] sg3 (pan K) fun b6 sg5 => K ⟨false, .bool (!b6)⟩ sg5) (K ⟨false, .bool false⟩ sg3)) (K ⟨false, .bool false⟩ sg1))) (K ⟨false, .bool false⟩ sg)) := by kernel_rfl
end token_name
namespace strings_HasPrefix
theorem eq (a0 a1 : ByteArray) : B n q 142 sg [.str a0, .str a1] K =
  (cB q 171 [.str a0, .str a1] sg (pan K) fun b2 sg1 => K ⟨false, .bool b2⟩ sg1) := by kernel_rfl
end strings_HasPrefix
namespace stringslite_HasPrefix
theorem eq (a0 a1 : ByteArray) : B n q 171 sg [.str a0, .str a1] K =
  (bcond (decide ((a0.size : Int) ≥ (a1.size : Int))) (chk ((decide (0 ≤ (a1.size : Int))) && (decide ((a1.size : Int) ≤ (a0.size : Int)))) (K ⟨false, .bool ((a0.extract 0 (a1.size : Int).toNat).toList == a1.toList)⟩ sg)) (K ⟨false, .bool false⟩ sg)) := by kernel_rfl
end stringslite_HasPrefix
end
end Go.Ev
