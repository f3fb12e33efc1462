/- What the evaluator comes to at some functions. -/
import Derived.Test.YtmofhelddcnecaaGreatDoorProg
import Derived.Test.YtmofhelddcnecaaGreatDoorV4
import Derived.KernelRfl
set_option linter.unusedVariables false
set_option maxRecDepth 100000
namespace Go.Ev
open Go.Ev.PV
noncomputable section
variable (q : Caller) (n m0 : Nat)
variable (i1 i2 i3 i4 i5 i6 i7 i8 i9 i11 i14 i64 : Int)
variable (b1 b2 b3 b4 b5 b6 b7 b8 b9 b10 b11 b12 b13 b14 b15 : Bool)
variable (t0 t1 t2 t3 t4 t5 t6 t7 : ByteArray)
variable (r1 r2 r4 r5 r6 r8 r9 r10 r12 : List (List PV))
variable (p2 p3 p5 p8 p9 p13 p14 : PV)
variable (a0 a1 a2 a4 : Nat)
variable (sg : List (List PV)) (K : KT)
namespace R12_parser_done
def S0 (a0 : Nat) (i1 : Int) (t2 : ByteArray) (i3 i4 : Int) (r5 : List (List PV)) (i6 : Int) (t7 : ByteArray) (i8 i9 : Int) (r10 : List (List PV)) (b11 : Bool) : List PV := .ptr a0 0 :: .agg [.int .i64 i1, .str t2, .int .i64 i3, .int .i64 i4, .list false r5] :: .skip :: .box [.int .i64 i6, .str t7, .int .i64 i8, .int .i64 i9, .list false r10] :: .box ([.int .i64 0, .str (⟨#[]⟩ : ByteArray), .int .i64 0, .int .i64 0, .list true []]) :: .int .i64 0 :: .int .i64 0 :: .skip :: .skip :: .undef :: U8 (.bool b11 :: .undef :: U4 (.skip :: U8 (U2 [.skip, .undef, .undef, .undef])))
def K0 (q : Caller) (n : Nat) (K : KT) : Cont := (fK (En n) 36 K)
def S1 (a0 : Nat) (i1 : Int) (t2 : ByteArray) (i3 i4 : Int) (r5 : List (List PV)) (i6 : Int) (t7 : ByteArray) (i8 i9 : Int) (r10 : List (List PV)) (i11 : Int) (b12 b13 b14 : Bool) : List PV := .ptr a0 0 :: .agg [.int .i64 i1, .str t2, .int .i64 i3, .int .i64 i4, .list false r5] :: .skip :: .box [.int .i64 i6, .str t7, .int .i64 i8, .int .i64 i9, .list false r10] :: .box ([.int .i64 0, .str (⟨#[]⟩ : ByteArray), .int .i64 0, .int .i64 0, .list true []]) :: .int .i64 0 :: .int .i64 0 :: .int .i64 i11 :: .bool b12 :: .undef :: U8 (.bool b13 :: .undef :: U4 (.bool b14 :: U8 (U2 [.skip, .undef, .undef, .undef])))
def K1 (q : Caller) (n : Nat) (K : KT) : Cont := (sK (En n) cutsOf q 36 [1, 1, 1, 1] (fK (En n) 36 K))
theorem cut0 : T n q 36 [1, 1] (S0 a0 i1 t2 i3 i4 r5 i6 t7 i8 i9 r10 b11) sg (K0 q n K) =
  (oB sg a0 3 fun b102 => bcond b102 ((oI sg a0 4 fun i104 => K ⟨false, .tup [.agg ([.int .i64 0, .str (⟨#[]⟩ : ByteArray), .int .i64 0, .int .i64 0, .list false []]), .int .i64 i104, .int .i64 11]⟩ sg) ∧ (oI sg a0 4 fun i106 => K ⟨false, .tup [.agg ([.int .i64 0, .str (⟨#[]⟩ : ByteArray), .int .i64 0, .int .i64 0, .list false []]), .int .i64 i106, .int .i64 11]⟩ sg)) (cP q 69 [.agg [.int .i64 i6, .str t7, .int .i64 i8, .int .i64 i9, .list false r10], .int .i64 13] sg (pan K) fun r108 sg107 => exV (((r108).strip).strip) 0 fun v109 => chk ((v109).isI .i64) (exV (((r108).strip).strip) 1 fun v110 => chk ((v110).isB) (C n q 36 [1, 1, 1, 0, 1] (S1 a0 i1 t2 i3 i4 r5 i6 t7 i8 i9 r10 ((v109).toI) ((v110).toB) b11 b102) sg107 (K1 q n K))))) := by kernel_rfl
theorem cut1 : T n q 36 [1, 1, 1, 0, 1] (S1 a0 i1 t2 i3 i4 r5 i6 t7 i8 i9 r10 i11 b12 b13 b14) sg (K1 q n K) =
  (bcond b12 (K ⟨false, .tup [.agg ([.int .i64 0, .str (⟨#[]⟩ : ByteArray), .int .i64 0, .int .i64 0, .list false []]), .int .i64 i11, .int .i64 4]⟩ sg) (K ⟨false, .tup [.agg [.int .i64 i6, .str t7, .int .i64 i8, .int .i64 i9, .list false r10], .int .i64 0, .int .i64 0]⟩ sg)) := by kernel_rfl
theorem eq (a0 : Nat) (a1_0 : Int) (a1_1 : ByteArray) (a1_2 a1_3 : Int) (a1_4 : List (List PV)) : B n q 36 sg [.ptr a0 0, .agg [.int .i64 a1_0, .str a1_1, .int .i64 a1_2, .int .i64 a1_3, .list false a1_4]] K =
  (oI sg a0 1 fun i2 => oL sg a0 0 fun r4 => bcond (decide (i2 < (r4.length : Int))) (cP q 68 [.ptr a0 0] sg (pan K) fun r6 sg5 => C n q 36 [1, 1] (S0 a0 a1_0 a1_1 a1_2 a1_3 a1_4 a1_0 a1_1 a1_2 a1_3 a1_4 (decide (i2 < (r4.length : Int)))) sg5 (K0 q n K)) (C n q 36 [1, 1] (S0 a0 a1_0 a1_1 a1_2 a1_3 a1_4 a1_0 a1_1 a1_2 a1_3 a1_4 (decide (i2 < (r4.length : Int)))) sg (K0 q n K))) := by kernel_rfl
end R12_parser_done
namespace R12_parser_decl
def S0 (a0 : Nat) (b1 : Bool) : List PV := .ptr a0 0 :: .skip :: .box ([.int .i64 0, .str (⟨#[]⟩ : ByteArray), .int .i64 0, .int .i64 0, .list true []]) :: .undef :: .bool b1 :: .undef :: .undef :: .undef :: .skip :: .undef :: .undef :: .undef :: .skip :: U4 []
def K0 (q : Caller) (n : Nat) (K : KT) : Cont := (fK (En n) 45 K)
def S1 (a0 : Nat) (b1 b2 : Bool) : List PV := .ptr a0 0 :: .skip :: .box ([.int .i64 0, .str (⟨#[]⟩ : ByteArray), .int .i64 0, .int .i64 0, .list true []]) :: .undef :: .bool b1 :: .undef :: .undef :: .undef :: .bool b2 :: .undef :: .undef :: .undef :: .skip :: U4 []
def K1 (q : Caller) (n : Nat) (K : KT) : Cont := (fK (En n) 45 K)
theorem cut0 : T n q 45 [1, 1] (S0 a0 b1) sg (K0 q n K) =
  (cB q 63 [.ptr a0 0, .int .i64 2, .str (⟨#[105, 110, 116, 101, 114, 102, 97, 99, 101]⟩ : ByteArray)] sg (pan K) fun b102 sg101 => bcond b102 (cNd q 92 [.ptr a0 0] sg101 (pan K) fun i104 t105 i106 i107 r108 sg103 => K ⟨false, .agg [.int .i64 i104, .str t105, .int .i64 i106, .int .i64 i107, .list false r108]⟩ sg103) (C n q 45 [1, 1, 1] (S1 a0 b1 b102) sg101 (K1 q n K))) := by kernel_rfl
theorem cut1 : T n q 45 [1, 1, 1] (S1 a0 b1 b2) sg (K1 q n K) =
  (cB q 63 [.ptr a0 0, .int .i64 2, .str (⟨#[102, 117, 110, 99]⟩ : ByteArray)] sg (pan K) fun b202 sg201 => bcond b202 (cNd q 93 [.ptr a0 0, .bool true] sg201 (pan K) fun i204 t205 i206 i207 r208 sg203 => K ⟨false, .agg [.int .i64 i204, .str t205, .int .i64 i206, .int .i64 i207, .list false r208]⟩ sg203) (cNd q 85 [.ptr a0 0] sg201 (pan K) fun i210 t211 i212 i213 r214 sg209 => K ⟨false, .agg [.int .i64 i210, .str t211, .int .i64 i212, .int .i64 i213, .list false r214]⟩ sg209)) := by kernel_rfl
theorem eq (a0 : Nat) : B n q 45 sg [.ptr a0 0] K =
  (cB q 63 [.ptr a0 0, .int .i64 2, .str (⟨#[99, 108, 97, 115, 115]⟩ : ByteArray)] sg (pan K) fun b2 sg1 => bcond b2 (cNd q 91 [.ptr a0 0] sg1 (pan K) fun i4 t5 i6 i7 r8 sg3 => K ⟨false, .agg [.int .i64 i4, .str t5, .int .i64 i6, .int .i64 i7, .list false r8]⟩ sg3) (C n q 45 [1, 1] (S0 a0 b2) sg1 (K0 q n K))) := by kernel_rfl
end R12_parser_decl
namespace R12_parser_text
def S0 (a0 : Nat) (i1 : Int) (b2 : Bool) : List PV := .ptr a0 0 :: .int .i64 i1 :: .skip :: .skip :: .str (⟨#[]⟩ : ByteArray) :: .undef :: .undef :: .undef :: .bool b2 :: U16 (U4 (U2 []))
def K0 (q : Caller) (n : Nat) (K : KT) : Cont := (fK (En n) 65 K)
theorem cut0 : T n q 65 [1, 1] (S0 a0 i1 b2) sg (K0 q n K) =
  (oI sg a0 1 fun i102 => objSet sg a0 1 [.int .i64 (IntKind.i64.wrap (i102 + 1))] fun sg103 => oL sg103 a0 0 fun r105 => oI sg103 a0 1 fun i107 => chk ((rowsOk 4 r105) && ((decide (0 ≤ (IntKind.i64.wrap (i107 - 1)))) && (decide ((IntKind.i64.wrap (i107 - 1)) < (r105.length : Int))))) (chk (decide (2 ≤ (rowAt r105 (IntKind.i64.wrap (i107 - 1))).length)) (chk (((((rowAt r105 (IntKind.i64.wrap (i107 - 1))).getD 1 .undef)).cstrip).isS) (K ⟨false, .str (((((rowAt r105 (IntKind.i64.wrap (i107 - 1))).getD 1 .undef)).cstrip).toS)⟩ sg103)))) := by kernel_rfl
theorem eq (a0 : Nat) (a1 : Int) : B n q 65 sg [.ptr a0 0, .int .i64 a1] K =
  (cI q 83 [.ptr a0 0] sg (pan K) fun i2 sg1 => bcond (i2 != a1) (cP q 68 [.ptr a0 0] sg1 (pan K) fun r4 sg3 => K ⟨false, .str (⟨#[]⟩ : ByteArray)⟩ sg3) (C n q 65 [1, 1] (S0 a0 a1 (i2 != a1)) sg1 (K0 q n K))) := by kernel_rfl
end R12_parser_text
namespace R12_parser_fail
theorem eq (a0 : Nat) : B n q 68 sg [.ptr a0 0] K =
  (oB sg a0 3 fun b2 => bcond b2 (K ⟨false, .tup []⟩ sg) (objSet sg a0 3 [.bool true] fun sg3 => oI sg3 a0 2 fun i5 => objSet sg3 a0 4 [.int .i64 i5] fun sg6 => oI sg6 a0 1 fun i8 => oL sg6 a0 0 fun r10 => bcond (decide (i8 < (r10.length : Int))) (oL sg6 a0 0 fun r12 => oI sg6 a0 1 fun i14 => chk ((rowsOk 4 r12) && ((decide (0 ≤ i14)) && (decide (i14 < (r12.length : Int))))) (chk (decide (3 ≤ (rowAt r12 i14).length)) (chk (((((rowAt r12 i14).getD 2 .undef)).cstrip).isI .i64) (objSet sg6 a0 4 [.int .i64 (((((rowAt r12 i14).getD 2 .undef)).cstrip).toI)] fun sg15 => K ⟨false, .tup []⟩ sg15)))) (K ⟨false, .tup []⟩ sg6))) := by kernel_rfl
end R12_parser_fail
namespace R12_parser_meta
def S0 (a0 : Nat) (b1 : Bool) (i2 : Int) : List PV := .ptr a0 0 :: .bool b1 :: .skip :: .skip :: .box ([.int .i64 0, .str (⟨#[]⟩ : ByteArray), .int .i64 0, .int .i64 0, .list true []]) :: .int .i64 i2 :: .int .i64 25 :: .skip :: U4 (.skip :: U4 (.skip :: .undef :: U4 (U2 [])))
def K0 (q : Caller) (n : Nat) (K : KT) : Cont := (fK (En n) 84 K)
def S1 (a0 : Nat) (b1 : Bool) (i2 i3 : Int) (b4 : Bool) : List PV := .ptr a0 0 :: .bool b1 :: .skip :: .skip :: .box ([.int .i64 0, .str (⟨#[]⟩ : ByteArray), .int .i64 0, .int .i64 0, .list true []]) :: .int .i64 i2 :: .int .i64 i3 :: .skip :: U4 (.bool b4 :: U4 (.skip :: .undef :: U4 (U2 [])))
def K1 (q : Caller) (n : Nat) (K : KT) : Cont := (fK (En n) 84 K)
def S2 (a0 : Nat) (b1 : Bool) (i2 i3 : Int) (t4 : ByteArray) (b5 : Bool) : List PV := .ptr a0 0 :: .bool b1 :: .skip :: .skip :: .box ([.int .i64 0, .str (⟨#[]⟩ : ByteArray), .int .i64 0, .int .i64 0, .list true []]) :: .int .i64 i2 :: .int .i64 i3 :: .str t4 :: U4 (.bool b5 :: U4 (.skip :: .undef :: U4 (U2 [])))
def K2 (q : Caller) (n : Nat) (K : KT) : Cont := (fK (En n) 84 K)
def S3 (a0 : Nat) (b1 : Bool) (i2 i3 : Int) (t4 : ByteArray) (b5 b6 : Bool) : List PV := .ptr a0 0 :: .bool b1 :: .skip :: .skip :: .box ([.int .i64 0, .str (⟨#[]⟩ : ByteArray), .int .i64 0, .int .i64 0, .list true []]) :: .int .i64 i2 :: .int .i64 i3 :: .str t4 :: U4 (.bool b5 :: U4 (.bool b6 :: .undef :: U4 (U2 [])))
def K3 (q : Caller) (n : Nat) (K : KT) : Cont := (fK (En n) 84 K)
theorem cut0 : T n q 84 [1, 1] (S0 a0 b1 i2) sg (K0 q n K) =
  (cI q 83 [.ptr a0 0] sg (pan K) fun i102 sg101 => bcond (i102 == 7) (C n q 84 [1, 1, 1] (S1 a0 b1 i2 26 (i102 == 7)) sg101 (K1 q n K)) (C n q 84 [1, 1, 1] (S1 a0 b1 i2 25 (i102 == 7)) sg101 (K1 q n K))) := by kernel_rfl
theorem cut1 : T n q 84 [1, 1, 1] (S1 a0 b1 i2 i3 b4) sg (K1 q n K) =
  (cI q 83 [.ptr a0 0] sg (pan K) fun i202 sg201 => cS q 65 [.ptr a0 0, .int .i64 i202] sg201 (pan K) fun t204 sg203 => C n q 84 [1, 1, 1, 1] (S2 a0 b1 i2 i3 t204 b4) sg203 (K2 q n K)) := by kernel_rfl
theorem cut2 : T n q 84 [1, 1, 1, 1] (S2 a0 b1 i2 i3 t4 b5) sg (K2 q n K) =
  (bcond b1 (cP q 66 [.ptr a0 0, .int .i64 5, .str (⟨#[59]⟩ : ByteArray)] sg (pan K) fun r302 sg301 => C n q 84 [1, 1, 1, 1, 1] (S3 a0 b1 i2 i3 t4 b5 b1) sg301 (K3 q n K)) (C n q 84 [1, 1, 1, 1, 1] (S3 a0 b1 i2 i3 t4 b5 b1) sg (K3 q n K))) := by kernel_rfl
theorem cut3 : T n q 84 [1, 1, 1, 1, 1] (S3 a0 b1 i2 i3 t4 b5 b6) sg (K3 q n K) =
  (cNd q 67 [.ptr a0 0, .int .i64 i3, .str t4, .int .i64 i2, .list false []] sg (pan K) fun i402 t403 i404 i405 r406 sg401 => K ⟨false, .agg [.int .i64 i402, .str t403, .int .i64 i404, .int .i64 i405, .list false r406]⟩ sg401) := by kernel_rfl
theorem eq (a0 : Nat) (a1 : Bool) : B n q 84 sg [.ptr a0 0, .bool a1] K =
  (cI q 64 [.ptr a0 0] sg (pan K) fun i2 sg1 => C n q 84 [1, 1] (S0 a0 a1 i2) sg1 (K0 q n K)) := by kernel_rfl
end R12_parser_meta
namespace R12_parser_skip
def S0 (a0 : Nat) (i1 : Int) (t2 : ByteArray) (b3 : Bool) : List PV := .ptr a0 0 :: .int .i64 i1 :: .str t2 :: .skip :: .skip :: .skip :: .bool false :: U4 (.bool b3 :: U8 [])
def K0 (q : Caller) (n : Nat) (K : KT) : Cont := (fK (En n) 87 K)
theorem cut0 : T n q 87 [1, 1] (S0 a0 i1 t2 b3) sg (K0 q n K) =
  (oI sg a0 1 fun i102 => objSet sg a0 1 [.int .i64 (IntKind.i64.wrap (i102 + 1))] fun sg103 => K ⟨false, .bool true⟩ sg103) := by kernel_rfl
theorem eq (a0 : Nat) (a1 : Int) (a2 : ByteArray) : B n q 87 sg [.ptr a0 0, .int .i64 a1, .str a2] K =
  (cB q 63 [.ptr a0 0, .int .i64 a1, .str a2] sg (pan K) fun b2 sg1 => bcond (!b2) (K ⟨false, .bool false⟩ sg1) (C n q 87 [1, 1] (S0 a0 a1 a2 (!b2)) sg1 (K0 q n K))) := by kernel_rfl
end R12_parser_skip
namespace R12_parser_class
def S0 (a0 : Nat) (i1 : Int) : List PV := .ptr a0 0 :: .skip :: .box ([.int .i64 0, .str (⟨#[]⟩ : ByteArray), .int .i64 0, .int .i64 0, .list true []]) :: .int .i64 i1 :: .skip :: .skip :: .skip :: .skip :: .skip :: .undef :: U8 (.skip :: U8 (.skip :: .undef :: U8 (U4 (U2 []))))
def K0 (q : Caller) (n : Nat) (K : KT) : Cont := (fK (En n) 91 K)
def S1 (a0 : Nat) (i1 : Int) : List PV := .ptr a0 0 :: .skip :: .box ([.int .i64 0, .str (⟨#[]⟩ : ByteArray), .int .i64 0, .int .i64 0, .list true []]) :: .int .i64 i1 :: .skip :: .skip :: .skip :: .skip :: .skip :: .undef :: U8 (.skip :: U8 (.skip :: .undef :: U8 (U4 (U2 []))))
def K1 (q : Caller) (n : Nat) (K : KT) : Cont := (fK (En n) 91 K)
def S2 (a0 : Nat) (i1 : Int) (t2 : ByteArray) : List PV := .ptr a0 0 :: .skip :: .box ([.int .i64 0, .str (⟨#[]⟩ : ByteArray), .int .i64 0, .int .i64 0, .list true []]) :: .int .i64 i1 :: .str t2 :: .skip :: .skip :: .skip :: .skip :: .undef :: U8 (.skip :: U8 (.skip :: .undef :: U8 (U4 (U2 []))))
def K2 (q : Caller) (n : Nat) (K : KT) : Cont := (fK (En n) 91 K)
def S3 (a0 : Nat) (i1 : Int) (t2 : ByteArray) (i3 : Int) : List PV := .ptr a0 0 :: .skip :: .box ([.int .i64 0, .str (⟨#[]⟩ : ByteArray), .int .i64 0, .int .i64 0, .list true []]) :: .int .i64 i1 :: .str t2 :: .int .i64 i3 :: .skip :: .skip :: .skip :: .undef :: U8 (.skip :: U8 (.skip :: .undef :: U8 (U4 (U2 []))))
def K3 (q : Caller) (n : Nat) (K : KT) : Cont := (fK (En n) 91 K)
def S4 (a0 : Nat) (i1 : Int) (t2 : ByteArray) (i3 : Int) (r4 : List (List PV)) (b5 : Bool) : List PV := .ptr a0 0 :: .skip :: .box ([.int .i64 0, .str (⟨#[]⟩ : ByteArray), .int .i64 0, .int .i64 0, .list true []]) :: .int .i64 i1 :: .str t2 :: .int .i64 i3 :: .list true r4 :: .list true [] :: .skip :: .undef :: U8 (.bool b5 :: U8 (.skip :: .undef :: U8 (U4 (U2 []))))
def K4 (q : Caller) (n : Nat) (K : KT) : Cont := (fK (En n) 91 K)
def S5 (a0 : Nat) (i1 : Int) (t2 : ByteArray) (i3 : Int) (r4 : List (List PV)) (i5 : Int) (b6 : Bool) : List PV := .ptr a0 0 :: .skip :: .box ([.int .i64 0, .str (⟨#[]⟩ : ByteArray), .int .i64 0, .int .i64 0, .list true []]) :: .int .i64 i1 :: .str t2 :: .int .i64 i3 :: .list true r4 :: .list true [] :: .int .i64 i5 :: .undef :: U8 (.bool b6 :: U8 (.skip :: .undef :: U8 (U4 (U2 []))))
def K5 (q : Caller) (n : Nat) (K : KT) : Cont := (fK (En n) 91 K)
def S6 (a0 : Nat) (i1 : Int) (t2 : ByteArray) (i3 : Int) (r4 : List (List PV)) (p5 : PV) (i6 : Int) (b7 b8 : Bool) : List PV := .ptr a0 0 :: .skip :: .box ([.int .i64 0, .str (⟨#[]⟩ : ByteArray), .int .i64 0, .int .i64 0, .list true []]) :: .int .i64 i1 :: .str t2 :: .int .i64 i3 :: .list true r4 :: p5 :: .int .i64 i6 :: .undef :: U8 (.bool b7 :: U8 (.bool b8 :: .undef :: U8 (U4 (U2 []))))
def K6 (q : Caller) (n : Nat) (K : KT) : Cont := (fK (En n) 91 K)
def S7 (a0 : Nat) (i1 : Int) (t2 : ByteArray) (i3 : Int) (r4 : List (List PV)) (p5 : PV) (i6 : Int) (b7 b8 : Bool) : List PV := .ptr a0 0 :: .skip :: .box ([.int .i64 0, .str (⟨#[]⟩ : ByteArray), .int .i64 0, .int .i64 0, .list true []]) :: .int .i64 i1 :: .str t2 :: .int .i64 i3 :: .list true r4 :: p5 :: .int .i64 i6 :: .undef :: U8 (.bool b7 :: U8 (.bool b8 :: .undef :: U8 (U4 (U2 []))))
def K7 (q : Caller) (n : Nat) (K : KT) : Cont := (fK (En n) 91 K)
theorem cut0 : T n q 91 [1, 1] (S0 a0 i1) sg (K0 q n K) =
  (cP q 66 [.ptr a0 0, .int .i64 2, .str (⟨#[99, 108, 97, 115, 115]⟩ : ByteArray)] sg (pan K) fun r102 sg101 => C n q 91 [1, 1, 1] (S1 a0 i1) sg101 (K1 q n K)) := by kernel_rfl
theorem cut1 : T n q 91 [1, 1, 1] (S1 a0 i1) sg (K1 q n K) =
  (cS q 65 [.ptr a0 0, .int .i64 1] sg (pan K) fun t202 sg201 => C n q 91 [1, 1, 1, 1] (S2 a0 i1 t202) sg201 (K2 q n K)) := by kernel_rfl
theorem cut2 : T n q 91 [1, 1, 1, 1] (S2 a0 i1 t2) sg (K2 q n K) =
  (cI q 89 [.ptr a0 0] sg (pan K) fun i302 sg301 => C n q 91 [1, 1, 1, 1, 1] (S3 a0 i1 t2 i302) sg301 (K3 q n K)) := by kernel_rfl
theorem cut3 : T n q 91 [1, 1, 1, 1, 1] (S3 a0 i1 t2 i3) sg (K3 q n K) =
  (cB q 87 [.ptr a0 0, .int .i64 2, .str (⟨#[101, 120, 116, 101, 110, 100, 115]⟩ : ByteArray)] sg (pan K) fun b402 sg401 => bcond b402 (cNd q 123 [.ptr a0 0] sg401 (pan K) fun i404 t405 i406 i407 r408 sg403 => C n q 91 [1, 1, 1, 1, 1, 1, 1] (S4 a0 i1 t2 i3 ([[PV.int .i64 i404, .str t405, .int .i64 i406, .int .i64 i407, .list false r408]]) b402) sg403 (K4 q n K)) (C n q 91 [1, 1, 1, 1, 1, 1, 1] (S4 a0 i1 t2 i3 [] b402) sg401 (K4 q n K))) := by kernel_rfl
theorem cut4 : T n q 91 [1, 1, 1, 1, 1, 1, 1] (S4 a0 i1 t2 i3 r4 b5) sg (K4 q n K) =
  (cI q 89 [.ptr a0 0] sg (pan K) fun i502 sg501 => C n q 91 [1, 1, 1, 1, 1, 1, 1, 1] (S5 a0 i1 t2 i3 r4 i502 b5) sg501 (K5 q n K)) := by kernel_rfl
theorem cut5 : T n q 91 [1, 1, 1, 1, 1, 1, 1, 1] (S5 a0 i1 t2 i3 r4 i5 b6) sg (K5 q n K) =
  (cB q 87 [.ptr a0 0, .int .i64 2, .str (⟨#[105, 109, 112, 108, 101, 109, 101, 110, 116, 115]⟩ : ByteArray)] sg (pan K) fun b602 sg601 => bcond b602 (cP q 124 [.ptr a0 0] sg601 (pan K) fun r604 sg603 => C n q 91 [1, 1, 1, 1, 1, 1, 1, 1, 1] (S6 a0 i1 t2 i3 r4 (mval r604) i5 b6 b602) sg603 (K6 q n K)) (C n q 91 [1, 1, 1, 1, 1, 1, 1, 1, 1] (S6 a0 i1 t2 i3 r4 (PV.list true []) i5 b6 b602) sg601 (K6 q n K))) := by kernel_rfl
theorem cut6 : T n q 91 [1, 1, 1, 1, 1, 1, 1, 1, 1] (S6 a0 i1 t2 i3 r4 p5 i6 b7 b8) sg (K6 q n K) =
  (cP q 66 [.ptr a0 0, .int .i64 5, .str (⟨#[123]⟩ : ByteArray)] sg (pan K) fun r702 sg701 => C n q 91 [1, 1, 1, 1, 1, 1, 1, 1, 1, 1] (S7 a0 i1 t2 i3 r4 p5 i6 b7 b8) sg701 (K7 q n K)) := by kernel_rfl
theorem cut7 : T n q 91 [1, 1, 1, 1, 1, 1, 1, 1, 1, 1] (S7 a0 i1 t2 i3 r4 p5 i6 b7 b8) sg (K7 q n K) =
  (cNd q 90 [.list false r4, .int .i64 i3] sg (pan K) fun i802 t803 i804 i805 r806 sg801 => cNd q 90 [((p5).strip).strip, .int .i64 i6] sg801 (pan K) fun i808 t809 i810 i811 r812 sg807 => cNd q 125 [.ptr a0 0, .int .i64 3, .str t2, .int .i64 i1, .list false ([[PV.int .i64 i802, .str t803, .int .i64 i804, .int .i64 i805, .list false r806], [.int .i64 i808, .str t809, .int .i64 i810, .int .i64 i811, .list false r812]]), .bool true] sg807 (pan K) fun i814 t815 i816 i817 r818 sg813 => K ⟨false, .agg [.int .i64 i814, .str t815, .int .i64 i816, .int .i64 i817, .list false r818]⟩ sg813) := by kernel_rfl
theorem eq (a0 : Nat) : B n q 91 sg [.ptr a0 0] K =
  (cI q 64 [.ptr a0 0] sg (pan K) fun i2 sg1 => C n q 91 [1, 1] (S0 a0 i2) sg1 (K0 q n K)) := by kernel_rfl
end R12_parser_class
namespace R12_parser_primary
def S0 (a0 : Nat) (i1 : Int) : List PV := .ptr a0 0 :: .skip :: .box ([.int .i64 0, .str (⟨#[]⟩ : ByteArray), .int .i64 0, .int .i64 0, .list true []]) :: .int .i64 i1 :: .skip :: .skip :: .skip :: .undef :: .undef :: .undef :: .skip :: .skip :: U4 (U2 (.skip :: U4 (U2 (.skip :: U4 (U2 (.skip :: .undef :: .undef :: .undef :: .skip :: .undef :: .undef :: .skip :: U16 (U4 (U2 (.skip :: U8 (U2 (.skip :: .undef :: U8 (U2 []))))))))))))
def K0 (q : Caller) (n : Nat) (K : KT) : Cont := (fK (En n) 121 K)
def S1 (a0 : Nat) (i1 i2 : Int) : List PV := .ptr a0 0 :: .skip :: .box ([.int .i64 0, .str (⟨#[]⟩ : ByteArray), .int .i64 0, .int .i64 0, .list true []]) :: .int .i64 i1 :: .skip :: .skip :: .skip :: .undef :: .undef :: .undef :: .int .i64 i2 :: .skip :: U4 (U2 (.skip :: U4 (U2 (.skip :: U4 (U2 (.skip :: .undef :: .undef :: .undef :: .skip :: .undef :: .undef :: .skip :: U16 (U4 (U2 (.skip :: U8 (U2 (.skip :: .undef :: U8 (U2 []))))))))))))
def K1 (q : Caller) (n : Nat) (K : KT) : Cont := (sK (En n) cutsOf q 121 [1, 1, 1] (fK (En n) 121 K))
def S2 (a0 : Nat) (i1 : Int) (t2 : ByteArray) (i3 : Int) (b4 b5 b6 b7 b8 b9 : Bool) : List PV := .ptr a0 0 :: .skip :: .box ([.int .i64 0, .str (⟨#[]⟩ : ByteArray), .int .i64 0, .int .i64 0, .list true []]) :: .int .i64 i1 :: .str t2 :: .skip :: .skip :: .undef :: .undef :: .undef :: .int .i64 i3 :: .bool b4 :: U4 (U2 (.bool b5 :: U4 (U2 (.bool b6 :: U4 (U2 (.bool b7 :: .undef :: .undef :: .undef :: .bool b8 :: .undef :: .undef :: .bool b9 :: U16 (U4 (U2 (.skip :: U8 (U2 (.skip :: .undef :: U8 (U2 []))))))))))))
def K2 (q : Caller) (n : Nat) (K : KT) : Cont := (sK (En n) cutsOf q 121 [1, 1, 0, 1, 0, 1, 1, 1, 1, 1, 1, 1, 1, 1, 0, 1] (blockK 0 (sK (En n) cutsOf q 121 [1, 1, 1] (fK (En n) 121 K))))
def S3 (a0 : Nat) (i1 i2 : Int) (b3 b4 b5 b6 b7 b8 : Bool) : List PV := .ptr a0 0 :: .skip :: .box ([.int .i64 0, .str (⟨#[]⟩ : ByteArray), .int .i64 0, .int .i64 0, .list true []]) :: .int .i64 i1 :: .skip :: .skip :: .skip :: .undef :: .undef :: .undef :: .int .i64 i2 :: .bool b3 :: U4 (U2 (.bool b4 :: U4 (U2 (.bool b5 :: U4 (U2 (.bool b6 :: .undef :: .undef :: .undef :: .bool b7 :: .undef :: .undef :: .bool b8 :: U16 (U4 (U2 (.skip :: U8 (U2 (.skip :: .undef :: U8 (U2 []))))))))))))
def K3 (q : Caller) (n : Nat) (K : KT) : Cont := (blockK 0 (sK (En n) cutsOf q 121 [1, 1, 1] (fK (En n) 121 K)))
def S4 (a0 : Nat) (i1 i2 : Int) (b3 b4 b5 b6 b7 : Bool) (p8 p9 : PV) : List PV := .ptr a0 0 :: .skip :: .box ([.int .i64 0, .str (⟨#[]⟩ : ByteArray), .int .i64 0, .int .i64 0, .list true []]) :: .int .i64 i1 :: .skip :: .skip :: .skip :: .undef :: .undef :: .undef :: .int .i64 i2 :: .bool b3 :: U4 (U2 (.bool b4 :: U4 (U2 (.bool b5 :: U4 (U2 (.bool b6 :: .undef :: .undef :: .undef :: .bool b7 :: .undef :: .undef :: p8 :: U16 (U4 (U2 (p9 :: U8 (U2 (.skip :: .undef :: U8 (U2 []))))))))))))
def K4 (q : Caller) (n : Nat) (K : KT) : Cont := (fK (En n) 121 K)
def S5 (a0 : Nat) (i1 : Int) (t2 : ByteArray) (i3 : Int) (b4 b5 b6 b7 b8 b9 : Bool) : List PV := .ptr a0 0 :: .skip :: .box ([.int .i64 0, .str (⟨#[]⟩ : ByteArray), .int .i64 0, .int .i64 0, .list true []]) :: .int .i64 i1 :: .str t2 :: .skip :: .skip :: .undef :: .undef :: .undef :: .int .i64 i3 :: .bool b4 :: U4 (U2 (.bool b5 :: U4 (U2 (.bool b6 :: U4 (U2 (.bool b7 :: .undef :: .undef :: .undef :: .bool b8 :: .undef :: .undef :: .bool b9 :: U16 (U4 (U2 (.skip :: U8 (U2 (.skip :: .undef :: U8 (U2 []))))))))))))
def K5 (q : Caller) (n : Nat) (K : KT) : Cont := (sK (En n) cutsOf q 121 [1, 1, 0, 1, 0, 1, 1, 1, 1, 1, 1, 1, 1, 1, 0, 1] (blockK 0 (sK (En n) cutsOf q 121 [1, 1, 1] (fK (En n) 121 K))))
def S6 (a0 : Nat) (i1 i2 : Int) (b3 b4 b5 b6 b7 : Bool) (p8 p9 : PV) : List PV := .ptr a0 0 :: .skip :: .box ([.int .i64 0, .str (⟨#[]⟩ : ByteArray), .int .i64 0, .int .i64 0, .list true []]) :: .int .i64 i1 :: .skip :: .skip :: .skip :: .undef :: .undef :: .undef :: .int .i64 i2 :: .bool b3 :: U4 (U2 (.bool b4 :: U4 (U2 (.bool b5 :: U4 (U2 (.bool b6 :: .undef :: .undef :: .undef :: .bool b7 :: .undef :: .undef :: p8 :: U16 (U4 (U2 (p9 :: U8 (U2 (.skip :: .undef :: U8 (U2 []))))))))))))
def K6 (q : Caller) (n : Nat) (K : KT) : Cont := (fK (En n) 121 K)
def S7 (a0 : Nat) (i1 : Int) (t2 : ByteArray) (p3 : PV) (i4 : Int) (b5 b6 b7 b8 b9 b10 : Bool) : List PV := .ptr a0 0 :: .skip :: .box ([.int .i64 0, .str (⟨#[]⟩ : ByteArray), .int .i64 0, .int .i64 0, .list true []]) :: .int .i64 i1 :: .str t2 :: p3 :: .skip :: .undef :: .undef :: .undef :: .int .i64 i4 :: .bool b5 :: U4 (U2 (.bool b6 :: U4 (U2 (.bool b7 :: U4 (U2 (.bool b8 :: .undef :: .undef :: .undef :: .bool b9 :: .undef :: .undef :: .bool b10 :: U16 (U4 (U2 (.skip :: U8 (U2 (.skip :: .undef :: U8 (U2 []))))))))))))
def K7 (q : Caller) (n : Nat) (K : KT) : Cont := (sK (En n) cutsOf q 121 [1, 1, 0, 1, 0, 1, 1, 1, 1, 1, 1, 1, 1, 1, 0, 1] (blockK 0 (sK (En n) cutsOf q 121 [1, 1, 1] (fK (En n) 121 K))))
def S8 (a0 : Nat) (i1 i2 : Int) (t3 : ByteArray) (i4 i5 : Int) (r6 : List (List PV)) (i7 : Int) (b8 b9 b10 b11 b12 : Bool) (p13 p14 : PV) (b15 : Bool) : List PV := .ptr a0 0 :: .skip :: .box ([.int .i64 0, .str (⟨#[]⟩ : ByteArray), .int .i64 0, .int .i64 0, .list true []]) :: .int .i64 i1 :: .skip :: .skip :: .box [.int .i64 i2, .str t3, .int .i64 i4, .int .i64 i5, .list false r6] :: .undef :: .undef :: .undef :: .int .i64 i7 :: .bool b8 :: U4 (U2 (.bool b9 :: U4 (U2 (.bool b10 :: U4 (U2 (.bool b11 :: .undef :: .undef :: .undef :: .bool b12 :: .undef :: .undef :: p13 :: U16 (U4 (U2 (p14 :: U8 (U2 (.bool b15 :: .undef :: U8 (U2 []))))))))))))
def K8 (q : Caller) (n : Nat) (K : KT) : Cont := (fK (En n) 121 K)
def S9 (a0 : Nat) (i1 i2 : Int) (t3 : ByteArray) (i4 i5 : Int) (r6 : List (List PV)) (i7 : Int) (b8 b9 b10 b11 b12 : Bool) (p13 p14 : PV) (b15 : Bool) : List PV := .ptr a0 0 :: .skip :: .box ([.int .i64 0, .str (⟨#[]⟩ : ByteArray), .int .i64 0, .int .i64 0, .list true []]) :: .int .i64 i1 :: .skip :: .skip :: .box [.int .i64 i2, .str t3, .int .i64 i4, .int .i64 i5, .list false r6] :: .undef :: .undef :: .undef :: .int .i64 i7 :: .bool b8 :: U4 (U2 (.bool b9 :: U4 (U2 (.bool b10 :: U4 (U2 (.bool b11 :: .undef :: .undef :: .undef :: .bool b12 :: .undef :: .undef :: p13 :: U16 (U4 (U2 (p14 :: U8 (U2 (.bool b15 :: .undef :: U8 (U2 []))))))))))))
def K9 (q : Caller) (n : Nat) (K : KT) : Cont := (fK (En n) 121 K)
theorem cut0 : T n q 121 [1, 1] (S0 a0 i1) sg (K0 q n K) =
  (cI q 83 [.ptr a0 0] sg (pan K) fun i102 sg101 => C n q 121 [1, 1, 0, 1] (S1 a0 i1 i102) sg101 (K1 q n K)) := by kernel_rfl
theorem cut1 : T n q 121 [1, 1, 0, 1] (S1 a0 i1 i2) sg (K1 q n K) =
  (bcond (i2 == 1) (cS q 65 [.ptr a0 0, .int .i64 1] sg (pan K) fun t202 sg201 => cNd q 67 [.ptr a0 0, .int .i64 15, .str t202, .int .i64 i1, .list false []] sg201 (pan K) fun i204 t205 i206 i207 r208 sg203 => K ⟨false, .agg [.int .i64 i204, .str t205, .int .i64 i206, .int .i64 i207, .list false r208]⟩ sg203) (bcond (i2 == 3) (cS q 65 [.ptr a0 0, .int .i64 3] sg (pan K) fun t210 sg209 => cNd q 67 [.ptr a0 0, .int .i64 16, .str t210, .int .i64 i1, .list false []] sg209 (pan K) fun i212 t213 i214 i215 r216 sg211 => K ⟨false, .agg [.int .i64 i212, .str t213, .int .i64 i214, .int .i64 i215, .list false r216]⟩ sg211) (bcond (i2 == 4) (cS q 65 [.ptr a0 0, .int .i64 4] sg (pan K) fun t218 sg217 => cNd q 67 [.ptr a0 0, .int .i64 17, .str t218, .int .i64 i1, .list false []] sg217 (pan K) fun i220 t221 i222 i223 r224 sg219 => K ⟨false, .agg [.int .i64 i220, .str t221, .int .i64 i222, .int .i64 i223, .list false r224]⟩ sg219) (bcond (i2 == 6) (cNd q 84 [.ptr a0 0, .bool false] sg (pan K) fun i226 t227 i228 i229 r230 sg225 => K ⟨false, .agg [.int .i64 i226, .str t227, .int .i64 i228, .int .i64 i229, .list false r230]⟩ sg225) (bcond (i2 == 2) (cB q 87 [.ptr a0 0, .int .i64 2, .str (⟨#[110, 101, 119]⟩ : ByteArray)] sg (pan K) fun b232 sg231 => bcond b232 (cS q 160 [.ptr a0 0] sg231 (pan K) fun t234 sg233 => C n q 121 [1, 1, 0, 1, 0, 1, 1, 1, 1, 1, 1, 1, 1, 1, 0, 0, 1, 0, 1] (S2 a0 i1 t234 i2 (i2 == 1) (i2 == 3) (i2 == 4) (i2 == 6) (i2 == 2) b232) sg233 (K2 q n K)) (C n q 121 [1, 1, 0, 1, 0, 1, 1, 1, 1, 1, 1, 1, 1, 1, 0, 1] (S3 a0 i1 i2 (i2 == 1) (i2 == 3) (i2 == 4) (i2 == 6) (i2 == 2) b232) sg231 (K3 q n K))) (C n q 121 [1, 1, 1] (S4 a0 i1 i2 (i2 == 1) (i2 == 3) (i2 == 4) (i2 == 6) (i2 == 2) PV.skip PV.skip) sg (K4 q n K))))))) := by kernel_rfl
theorem cut2 : T n q 121 [1, 1, 0, 1, 0, 1, 1, 1, 1, 1, 1, 1, 1, 1, 0, 0, 1, 0, 1] (S2 a0 i1 t2 i3 b4 b5 b6 b7 b8 b9) sg (K2 q n K) =
  (cP q 66 [.ptr a0 0, .int .i64 5, .str (⟨#[40]⟩ : ByteArray)] sg (pan K) fun r302 sg301 => C n q 121 [1, 1, 0, 1, 0, 1, 1, 1, 1, 1, 1, 1, 1, 1, 0, 0, 1, 0, 1, 1] (S5 a0 i1 t2 i3 b4 b5 b6 b7 b8 b9) sg301 (K5 q n K)) := by kernel_rfl
theorem cut3 : T n q 121 [1, 1, 0, 1, 0, 1, 1, 1, 1, 1, 1, 1, 1, 1, 0, 1] (S3 a0 i1 i2 b3 b4 b5 b6 b7 b8) sg (K3 q n K) =
  (oL sg a0 0 fun r402 => oI sg a0 1 fun i404 => chk ((rowsOk 4 r402) && ((decide (0 ≤ i404)) && (decide (i404 < (r402.length : Int))))) (chk (decide (2 ≤ (rowAt r402 i404).length)) (chk (((((rowAt r402 i404).getD 1 .undef)).cstrip).isS) (cB q 161 [.str (((((rowAt r402 i404).getD 1 .undef)).cstrip).toS)] sg (pan K) fun b406 sg405 => bcond b406 (cS q 65 [.ptr a0 0, .int .i64 2] sg405 (pan K) fun t408 sg407 => cNd q 67 [.ptr a0 0, .int .i64 18, .str t408, .int .i64 i1, .list false []] sg407 (pan K) fun i410 t411 i412 i413 r414 sg409 => K ⟨false, .agg [.int .i64 i410, .str t411, .int .i64 i412, .int .i64 i413, .list false r414]⟩ sg409) (C n q 121 [1, 1, 1] (S4 a0 i1 i2 b3 b4 b5 b6 b7 (PV.bool b8) (PV.bool b406)) sg405 (K4 q n K)))))) := by kernel_rfl
theorem cut4 : T n q 121 [1, 1, 1] (S4 a0 i1 i2 b3 b4 b5 b6 b7 p8 p9) sg (K4 q n K) =
  (cP q 66 [.ptr a0 0, .int .i64 5, .str (⟨#[40]⟩ : ByteArray)] sg (pan K) fun r502 sg501 => C n q 121 [1, 1, 1, 1] (S6 a0 i1 i2 b3 b4 b5 b6 b7 p8 p9) sg501 (K6 q n K)) := by kernel_rfl
theorem cut5 : T n q 121 [1, 1, 0, 1, 0, 1, 1, 1, 1, 1, 1, 1, 1, 1, 0, 0, 1, 0, 1, 1] (S5 a0 i1 t2 i3 b4 b5 b6 b7 b8 b9) sg (K5 q n K) =
  (cP q 122 [.ptr a0 0] sg (pan K) fun r602 sg601 => C n q 121 [1, 1, 0, 1, 0, 1, 1, 1, 1, 1, 1, 1, 1, 1, 0, 0, 1, 0, 1, 1, 1] (S7 a0 i1 t2 (mval r602) i3 b4 b5 b6 b7 b8 b9) sg601 (K7 q n K)) := by kernel_rfl
theorem cut6 : T n q 121 [1, 1, 1, 1] (S6 a0 i1 i2 b3 b4 b5 b6 b7 p8 p9) sg (K6 q n K) =
  (oB sg a0 3 fun b702 => bcond b702 (K ⟨false, .agg ([.int .i64 0, .str (⟨#[]⟩ : ByteArray), .int .i64 0, .int .i64 0, .list false []])⟩ sg) (cNd q 43 [.ptr a0 0, .int .i64 0] sg (pan K) fun i704 t705 i706 i707 r708 sg703 => chk (!(isBaddr 6 p8 || (isBaddr 6 p9 || false))) (C n q 121 [1, 1, 1, 1, 1, 1] (S8 a0 i1 i704 t705 i706 i707 r708 i2 b3 b4 b5 b6 b7 p8 p9 b702) sg703 (K8 q n K)))) := by kernel_rfl
theorem cut7 : T n q 121 [1, 1, 0, 1, 0, 1, 1, 1, 1, 1, 1, 1, 1, 1, 0, 0, 1, 0, 1, 1, 1] (S7 a0 i1 t2 p3 i4 b5 b6 b7 b8 b9 b10) sg (K7 q n K) =
  (cNd q 67 [.ptr a0 0, .int .i64 21, .str t2, .int .i64 i1, ((p3).strip).strip] sg (pan K) fun i802 t803 i804 i805 r806 sg801 => K ⟨false, .agg [.int .i64 i802, .str t803, .int .i64 i804, .int .i64 i805, .list false r806]⟩ sg801) := by kernel_rfl
theorem cut8 : T n q 121 [1, 1, 1, 1, 1, 1] (S8 a0 i1 i2 t3 i4 i5 r6 i7 b8 b9 b10 b11 b12 p13 p14 b15) sg (K8 q n K) =
  (cP q 66 [.ptr a0 0, .int .i64 5, .str (⟨#[41]⟩ : ByteArray)] sg (pan K) fun r902 sg901 => C n q 121 [1, 1, 1, 1, 1, 1, 1] (S9 a0 i1 i2 t3 i4 i5 r6 i7 b8 b9 b10 b11 b12 p13 p14 b15) sg901 (K9 q n K)) := by kernel_rfl
theorem cut9 : T n q 121 [1, 1, 1, 1, 1, 1, 1] (S9 a0 i1 i2 t3 i4 i5 r6 i7 b8 b9 b10 b11 b12 p13 p14 b15) sg (K9 q n K) =
  (cI q 89 [.ptr a0 0] sg (pan K) fun i1002 sg1001 => K ⟨false, .agg [.int .i64 i2, .str t3, .int .i64 i1, .int .i64 i1002, .list false r6]⟩ sg1001) := by kernel_rfl
theorem eq (a0 : Nat) : B n q 121 sg [.ptr a0 0] K =
  (cI q 64 [.ptr a0 0] sg (pan K) fun i2 sg1 => C n q 121 [1, 1] (S0 a0 i2) sg1 (K0 q n K)) := by kernel_rfl
end R12_parser_primary
namespace R12_parser_types
def S0 (a0 : Nat) (r1 : List (List PV)) (p2 p3 : PV) : List PV := .ptr a0 0 :: .skip :: .list true [] :: .list true r1 :: .undef :: .undef :: p2 :: U8 (U4 [p3, .undef])
def K0 (q : Caller) (n : Nat) (K : KT) : Cont := (blockK 0 (fK (En n) 124 K))
def S1 (a0 : Nat) (r1 : List (List PV)) (b2 : Bool) (p3 : PV) : List PV := .ptr a0 0 :: .skip :: .list true [] :: .list true r1 :: .undef :: .undef :: .bool b2 :: U8 (U4 [p3, .undef])
def K1 (q : Caller) (n m0 : Nat) (K : KT) : Cont := (blockK 1 (lK (En n) q 124 [1, 1, 0, 0] (blockK 0 (fK (En n) 124 K)) m0))
theorem loop0 : T n q 124 [1, 1, 0, 0] (S0 a0 r1 p2 p3) sg (lK (En n) q 124 [1, 1, 0, 0] (K0 q n K) m0) =
  (cI q 83 [.ptr a0 0] sg (pan K) fun i102 sg101 => bcond (i102 == 7) (cNd q 84 [.ptr a0 0, .bool false] sg101 (pan K) fun i104 t105 i106 i107 r108 sg103 => chk ((rowsOk 5 r1) && (decide ((r1.length + 1) ≤ mostL))) (C n q 124 [1, 1, 0, 0, 0, 1] (S1 a0 (r1 ++ [[PV.int .i64 i104, .str t105, .int .i64 i106, .int .i64 i107, .list false r108]]) (i102 == 7) p3) sg103 (K1 q n m0 K))) (cNd q 123 [.ptr a0 0] sg101 (pan K) fun i110 t111 i112 i113 r114 sg109 => chk ((rowsOk 5 r1) && (decide ((r1.length + 1) ≤ mostL))) (C n q 124 [1, 1, 0, 0, 0, 1] (S1 a0 (r1 ++ [[PV.int .i64 i110, .str t111, .int .i64 i112, .int .i64 i113, .list false r114]]) (i102 == 7) p3) sg109 (K1 q n m0 K)))) := by kernel_rfl
theorem cut1 : T n q 124 [1, 1, 0, 0, 0, 1] (S1 a0 r1 b2 p3) sg (K1 q n m0 K) =
  (cB q 87 [.ptr a0 0, .int .i64 5, .str (⟨#[44]⟩ : ByteArray)] sg (pan K) fun b202 sg201 => bcond (!b202) (K ⟨false, .list false r1⟩ sg201) (L n q 124 [1, 1, 0, 0] (S0 a0 r1 (PV.bool b2) (PV.bool (!b202))) sg201 (K0 q n K) m0)) := by kernel_rfl
theorem eq (a0 : Nat) : B n q 124 sg [.ptr a0 0] K =
  (L n q 124 [1, 1, 0, 0] (S0 a0 [] PV.skip PV.skip) sg (K0 q n K) n) := by kernel_rfl
end R12_parser_types
namespace R12_parser_name
def S0 (a0 : Nat) (t1 : ByteArray) : List PV := .ptr a0 0 :: .skip :: .str (⟨#[]⟩ : ByteArray) :: .str t1 :: .undef :: .undef :: .undef :: .skip :: U4 (U2 [])
def K0 (q : Caller) (n : Nat) (K : KT) : Cont := (fK (En n) 160 K)
theorem cut0 : T n q 160 [1, 1] (S0 a0 t1) sg (K0 q n K) =
  (cB q 87 [.ptr a0 0, .int .i64 5, .str (⟨#[46]⟩ : ByteArray)] sg (pan K) fun b102 sg101 => bcond b102 (chk (sumOk t1 (⟨#[46]⟩ : ByteArray)) (cS q 65 [.ptr a0 0, .int .i64 1] sg101 (pan K) fun t104 sg103 => chk (sumOk (cat t1 (⟨#[46]⟩ : ByteArray)) t104) (K ⟨false, .str (cat (cat t1 (⟨#[46]⟩ : ByteArray)) t104)⟩ sg103))) (K ⟨false, .str t1⟩ sg101)) := by kernel_rfl
theorem eq (a0 : Nat) : B n q 160 sg [.ptr a0 0] K =
  (cS q 65 [.ptr a0 0, .int .i64 1] sg (pan K) fun t2 sg1 => C n q 160 [1, 1] (S0 a0 t2) sg1 (K0 q n K)) := by kernel_rfl
end R12_parser_name
namespace R12_constant
theorem eq (a0 : ByteArray) : B n q 161 sg [.str a0] K =
  (bcond (a0.toList == (⟨#[116, 114, 117, 101]⟩ : ByteArray).toList) (K ⟨false, .bool true⟩ sg) (bcond (a0.toList == (⟨#[102, 97, 108, 115, 101]⟩ : ByteArray).toList) (K ⟨false, .bool true⟩ sg) (bcond (a0.toList == (⟨#[110, 117, 108, 108]⟩ : ByteArray).toList) (K ⟨false, .bool true⟩ sg) (K ⟨false, .bool (a0.toList == (⟨#[116, 104, 105, 115]⟩ : ByteArray).toList)⟩ sg)))) := by kernel_rfl
end R12_constant
namespace R12_Module
def S0 (t0 : ByteArray) (r1 : List (List PV)) (i2 i3 : Int) : List PV := .str t0 :: .skip :: .box ([.int .i64 0, .str (⟨#[]⟩ : ByteArray), .int .i64 0, .int .i64 0, .list true []]) :: .int .i64 0 :: .int .i64 0 :: .list false r1 :: .int .i64 i2 :: .int .i64 i3 :: .skip :: .skip :: .undef :: U4 (U2 (.skip :: U16 []))
def K0 (q : Caller) (n : Nat) (K : KT) : Cont := (fK (En n) 12 K)
def S1 (t0 : ByteArray) (r1 : List (List PV)) (i2 i3 : Int) (a4 : Nat) (i5 : Int) (t6 : ByteArray) (i7 i8 : Int) (r9 : List (List PV)) (b10 : Bool) : List PV := .str t0 :: .skip :: .box ([.int .i64 0, .str (⟨#[]⟩ : ByteArray), .int .i64 0, .int .i64 0, .list true []]) :: .int .i64 0 :: .int .i64 0 :: .list false r1 :: .int .i64 i2 :: .int .i64 i3 :: .ptr a4 0 :: .box [.int .i64 i5, .str t6, .int .i64 i7, .int .i64 i8, .list false r9] :: .undef :: U4 (U2 (.bool b10 :: U16 []))
def K1 (q : Caller) (n : Nat) (K : KT) : Cont := (fK (En n) 12 K)
theorem cut0 : T n q 12 [1, 1] (S0 t0 r1 i2 i3) sg (K0 q n K) =
  (bcond (i3 != 0) (K ⟨false, .tup [.agg ([.int .i64 0, .str (⟨#[]⟩ : ByteArray), .int .i64 0, .int .i64 0, .list false []]), .int .i64 i2, .int .i64 i3]⟩ sg) (cNd q 35 [.ptr sg.length 0] (sg ++ [[.list false r1, .int .i64 0, .int .i64 (t0.size : Int), .bool false, .int .i64 0]]) (pan K) fun i102 t103 i104 i105 r106 sg101 => C n q 12 [1, 1, 1, 1, 1] (S1 t0 r1 i2 i3 sg.length i102 t103 i104 i105 r106 (i3 != 0)) sg101 (K1 q n K))) := by kernel_rfl
theorem cut1 : T n q 12 [1, 1, 1, 1, 1] (S1 t0 r1 i2 i3 a4 i5 t6 i7 i8 r9 b10) sg (K1 q n K) =
  (cP q 36 [.ptr a4 0, .agg [.int .i64 i5, .str t6, .int .i64 i7, .int .i64 i8, .list false r9]] sg (pan K) fun r202 sg201 => exV ((r202).strip) 0 fun v203 => chk ((v203).isAgg && (((v203).aggC).length == 5)) (chk (((((v203).aggC).getD 0 .undef)).isI .i64) (chk (((((v203).aggC).getD 1 .undef)).isS) (chk (((((v203).aggC).getD 2 .undef)).isI .i64) (chk (((((v203).aggC).getD 3 .undef)).isI .i64) (chk (((((v203).aggC).getD 4 .undef)).isL) (exV ((r202).strip) 1 fun v204 => chk ((v204).isI .i64) (exV ((r202).strip) 2 fun v205 => chk ((v205).isI .i64) (K ⟨false, .tup [.agg [.int .i64 (((((v203).aggC).getD 0 .undef)).toI), .str (((((v203).aggC).getD 1 .undef)).toS), .int .i64 (((((v203).aggC).getD 2 .undef)).toI), .int .i64 (((((v203).aggC).getD 3 .undef)).toI), .list false (((((v203).aggC).getD 4 .undef)).rows)], .int .i64 ((v204).toI), .int .i64 ((v205).toI)]⟩ sg201))))))))) := by kernel_rfl
theorem eq (a0 : ByteArray) : B n q 12 sg [.str a0] K =
  (cP q 30 [.str a0] sg (pan K) fun r2 sg1 => exV (((r2).strip).strip) 0 fun v3 => chk ((v3).isL) (exV (((r2).strip).strip) 1 fun v4 => chk ((v4).isI .i64) (exV (((r2).strip).strip) 2 fun v5 => chk ((v5).isI .i64) (C n q 12 [1, 1] (S0 a0 ((v3).rows) ((v4).toI) ((v5).toI)) sg1 (K0 q n K))))) := by kernel_rfl
end R12_Module
end
end Go.Ev
