/- What the evaluator comes to at some functions. -/
import Derived.Test.YtmofhelddcnecaaGreatDoorProg
import Derived.Test.YtmofhelddcnecaaGreatDoorB4
import Derived.KernelRfl
set_option linter.unusedVariables false
set_option maxRecDepth 100000
namespace Go.Ev
open Go.Ev.PV
noncomputable section
variable (q : Caller) (n m0 m2 m4 : Nat)
variable (i1 i2 i3 i4 i5 i6 i7 i8 i9 i10 i11 i12 i13 i14 i15 i16 i17 i18 i20 i22 i23 i28 i30 i31 i64 : Int)
variable (b1 b2 b3 b5 b6 b8 b9 b10 b12 b13 b14 b15 b16 b18 b19 b20 b21 b22 b25 b26 b27 b28 : Bool)
variable (t1 t2 t3 t4 t5 t6 t9 t10 t11 t13 t15 t16 t21 t29 : ByteArray)
variable (r2 r4 r7 r8 r9 r11 r12 r13 r14 r16 r18 r19 r24 r32 r34 : List (List PV))
variable (c0 c2 c3 : List PV)
variable (p3 p5 p6 p7 p8 p10 p11 p13 p14 p17 p19 : PV)
variable (a0 a1 a2 a3 a4 : Nat)
variable (sg : List (List PV)) (K : KT)
namespace syntax_parser_expr
theorem eq (a0 : Nat) : B n q 39 sg [.ptr a0 0] K =
  (cP q 71 [.str (⟨#[124, 124, 32, 126, 32, 38, 38, 32, 126, 32, 61, 61, 32, 33, 61, 32, 126, 32, 60, 32, 62, 32, 126, 32, 43, 32, 45, 32, 126, 32, 42, 32, 47, 32, 37]⟩ : ByteArray), .str (⟨#[126]⟩ : ByteArray)] sg (pan K) fun r2 sg1 => cNd q 70 [.ptr a0 0, (r2).strip] sg1 (pan K) fun i4 t5 i6 i7 r8 sg3 => K ⟨false, .agg [.int .i64 i4, .str t5, .int .i64 i6, .int .i64 i7, .list false r8]⟩ sg3) := by kernel_rfl
end syntax_parser_expr
namespace syntax_parser_decl
theorem eq (a0 : Nat) : B n q 41 sg [.ptr a0 0] K =
  (cB q 58 [.ptr a0 0, .str (⟨#[99, 108, 97, 115, 115]⟩ : ByteArray)] sg (pan K) fun b2 sg1 => bcond b2 (cNd q 78 [.ptr a0 0] sg1 (pan K) fun i4 t5 i6 i7 r8 sg3 => K ⟨false, .agg [.int .i64 i4, .str t5, .int .i64 i6, .int .i64 i7, .list false r8]⟩ sg3) (cB q 58 [.ptr a0 0, .str (⟨#[105, 110, 116, 101, 114, 102, 97, 99, 101]⟩ : ByteArray)] sg1 (pan K) fun b10 sg9 => bcond b10 (cNd q 79 [.ptr a0 0] sg9 (pan K) fun i12 t13 i14 i15 r16 sg11 => K ⟨false, .agg [.int .i64 i12, .str t13, .int .i64 i14, .int .i64 i15, .list false r16]⟩ sg11) (cB q 58 [.ptr a0 0, .str (⟨#[102, 117, 110, 99]⟩ : ByteArray)] sg9 (pan K) fun b18 sg17 => bcond b18 (cNd q 80 [.ptr a0 0, .bool true] sg17 (pan K) fun i20 t21 i22 i23 r24 sg19 => K ⟨false, .agg [.int .i64 i20, .str t21, .int .i64 i22, .int .i64 i23, .list false r24]⟩ sg19) (cB q 58 [.ptr a0 0, .str (⟨#[118, 97, 114]⟩ : ByteArray)] sg17 (pan K) fun b26 sg25 => bcond b26 (cNd q 73 [.ptr a0 0] sg25 (pan K) fun i28 t29 i30 i31 r32 sg27 => K ⟨false, .agg [.int .i64 i28, .str t29, .int .i64 i30, .int .i64 i31, .list false r32]⟩ sg27) (cP q 56 [.ptr a0 0] sg25 (pan K) fun r34 sg33 => K ⟨false, .agg ([.int .i64 0, .str (⟨#[]⟩ : ByteArray), .int .i64 0, .int .i64 0, .list false []])⟩ sg33))))) := by kernel_rfl
end syntax_parser_decl
namespace syntax_parser_is
def S0 (a0 : Nat) (t1 : ByteArray) (i2 : Int) (t3 : ByteArray) (i4 i5 : Int) : List PV := .ptr a0 0 :: .str t1 :: .skip :: .skip :: .bool false :: .box [.int .i64 i2, .str t3, .int .i64 i4, .int .i64 i5] :: U16 []
def K0 (q : Caller) (n : Nat) (K : KT) : Cont := (fK (En n) 58 K)
theorem cut0 : T n q 58 [1, 1] (S0 a0 t1 i2 t3 i4 i5) sg (K0 q n K) =
  (bcond (i2 == 5) (K ⟨false, .bool (t3.toList == t1.toList)⟩ sg) (bcond (i2 == 2) (K ⟨false, .bool (t3.toList == t1.toList)⟩ sg) (K ⟨false, .bool false⟩ sg))) := by kernel_rfl
theorem eq (a0 : Nat) (a1 : ByteArray) : B n q 58 sg [.ptr a0 0, .str a1] K =
  (cTok q 59 [.ptr a0 0, .int .i64 0] sg (pan K) fun i2 t3 i4 i5 sg1 => C n q 58 [1, 1] (S0 a0 a1 i2 t3 i4 i5) sg1 (K0 q n K)) := by kernel_rfl
end syntax_parser_is
namespace syntax_parser_kind
def S0 (a0 : Nat) (i1 i2 : Int) (t3 : ByteArray) (i4 i5 : Int) : List PV := .ptr a0 0 :: .int .i64 i1 :: .skip :: .skip :: .box ([.int .i64 0, .str (⟨#[]⟩ : ByteArray), .int .i64 0, .int .i64 0]) :: .box [.int .i64 i2, .str t3, .int .i64 i4, .int .i64 i5] :: .undef :: U4 (.skip :: U8 (U2 []))
def K0 (q : Caller) (n : Nat) (K : KT) : Cont := (fK (En n) 60 K)
def S1 (a0 : Nat) (i1 i2 : Int) (t3 : ByteArray) (i4 i5 : Int) (b6 : Bool) : List PV := .ptr a0 0 :: .int .i64 i1 :: .skip :: .skip :: .box ([.int .i64 0, .str (⟨#[]⟩ : ByteArray), .int .i64 0, .int .i64 0]) :: .box [.int .i64 i2, .str t3, .int .i64 i4, .int .i64 i5] :: .undef :: U4 (.bool b6 :: U8 (U2 []))
def K1 (q : Caller) (n : Nat) (K : KT) : Cont := (fK (En n) 60 K)
theorem cut0 : T n q 60 [1, 1] (S0 a0 i1 i2 t3 i4 i5) sg (K0 q n K) =
  (bcond (i2 != i1) (cP q 56 [.ptr a0 0] sg (pan K) fun r102 sg101 => C n q 60 [1, 1, 1] (S1 a0 i1 i2 t3 i4 i5 (i2 != i1)) sg101 (K1 q n K)) (C n q 60 [1, 1, 1] (S1 a0 i1 i2 t3 i4 i5 (i2 != i1)) sg (K1 q n K))) := by kernel_rfl
theorem cut1 : T n q 60 [1, 1, 1] (S1 a0 i1 i2 t3 i4 i5 b6) sg (K1 q n K) =
  (oI sg a0 1 fun i202 => objSet sg a0 1 [.int .i64 (IntKind.i64.wrap (i202 + 1))] fun sg203 => K ⟨false, .agg [.int .i64 i2, .str t3, .int .i64 i4, .int .i64 i5]⟩ sg203) := by kernel_rfl
theorem eq (a0 : Nat) (a1 : Int) : B n q 60 sg [.ptr a0 0, .int .i64 a1] K =
  (cTok q 59 [.ptr a0 0, .int .i64 0] sg (pan K) fun i2 t3 i4 i5 sg1 => C n q 60 [1, 1] (S0 a0 a1 i2 t3 i4 i5) sg1 (K0 q n K)) := by kernel_rfl
end syntax_parser_kind
namespace syntax_parser_node
theorem eq (a0 : Nat) (a1 : Int) (a2 : ByteArray) (a3 : Int) (a4 : List (List PV)) : B n q 62 sg [.ptr a0 0, .int .i64 a1, .str a2, .int .i64 a3, .list false a4] K =
  (cI q 111 [.ptr a0 0] sg (pan K) fun i2 sg1 => K ⟨false, .agg [.int .i64 a1, .str a2, .int .i64 a3, .int .i64 i2, .list false a4]⟩ sg1) := by kernel_rfl
end syntax_parser_node
namespace syntax_parser_part
def S0 (a0 : Nat) (i1 : Int) (t2 : ByteArray) (i3 i4 : Int) : List PV := .ptr a0 0 :: .skip :: .box ([.int .i64 0, .str (⟨#[]⟩ : ByteArray), .int .i64 0, .int .i64 0, .list true []]) :: .bool false :: .box [.int .i64 i1, .str t2, .int .i64 i3, .int .i64 i4] :: .skip :: .skip :: U8 (U4 (.skip :: U16 (U2 (.skip :: U16 (U4 [])))))
def K0 (q : Caller) (n : Nat) (K : KT) : Cont := (fK (En n) 72 K)
def S1 (a0 : Nat) (i1 : Int) (t2 : ByteArray) (i3 i4 i5 : Int) (t6 : ByteArray) (i7 i8 : Int) : List PV := .ptr a0 0 :: .skip :: .box ([.int .i64 0, .str (⟨#[]⟩ : ByteArray), .int .i64 0, .int .i64 0, .list true []]) :: .bool false :: .box [.int .i64 i1, .str t2, .int .i64 i3, .int .i64 i4] :: .box [.int .i64 i5, .str t6, .int .i64 i7, .int .i64 i8] :: .skip :: U8 (U4 (.skip :: U16 (U2 (.skip :: U16 (U4 [])))))
def K1 (q : Caller) (n : Nat) (K : KT) : Cont := (fK (En n) 72 K)
def S2 (a0 : Nat) (i1 : Int) (t2 : ByteArray) (i3 i4 i5 : Int) (t6 : ByteArray) (i7 i8 : Int) (b9 : Bool) : List PV := .ptr a0 0 :: .skip :: .box ([.int .i64 0, .str (⟨#[]⟩ : ByteArray), .int .i64 0, .int .i64 0, .list true []]) :: .bool false :: .box [.int .i64 i1, .str t2, .int .i64 i3, .int .i64 i4] :: .box [.int .i64 i5, .str t6, .int .i64 i7, .int .i64 i8] :: .bool b9 :: U8 (U4 (.skip :: U16 (U2 (.skip :: U16 (U4 [])))))
def K2 (q : Caller) (n : Nat) (K : KT) : Cont := (fK (En n) 72 K)
def S3 (a0 : Nat) (i1 : Int) (t2 : ByteArray) (i3 i4 i5 : Int) (t6 : ByteArray) (i7 i8 : Int) (b9 b10 : Bool) : List PV := .ptr a0 0 :: .skip :: .box ([.int .i64 0, .str (⟨#[]⟩ : ByteArray), .int .i64 0, .int .i64 0, .list true []]) :: .bool false :: .box [.int .i64 i1, .str t2, .int .i64 i3, .int .i64 i4] :: .box [.int .i64 i5, .str t6, .int .i64 i7, .int .i64 i8] :: .bool b9 :: U8 (U4 (.bool b10 :: U16 (U2 (.skip :: U16 (U4 [])))))
def K3 (q : Caller) (n : Nat) (K : KT) : Cont := (blockK 0 (sK (En n) cutsOf q 72 [1, 1, 1, 1, 1] (fK (En n) 72 K)))
theorem cut0 : T n q 72 [1, 1] (S0 a0 i1 t2 i3 i4) sg (K0 q n K) =
  (cTok q 59 [.ptr a0 0, .int .i64 1] sg (pan K) fun i102 t103 i104 i105 sg101 => C n q 72 [1, 1, 1] (S1 a0 i1 t2 i3 i4 i102 t103 i104 i105) sg101 (K1 q n K)) := by kernel_rfl
theorem cut1 : T n q 72 [1, 1, 1] (S1 a0 i1 t2 i3 i4 i5 t6 i7 i8) sg (K1 q n K) =
  (bcond (i5 == 5) (C n q 72 [1, 1, 1, 1] (S2 a0 i1 t2 i3 i4 i5 t6 i7 i8 (t6.toList == (⟨#[59]⟩ : ByteArray).toList)) sg (K2 q n K)) (C n q 72 [1, 1, 1, 1] (S2 a0 i1 t2 i3 i4 i5 t6 i7 i8 false) sg (K2 q n K))) := by kernel_rfl
theorem cut2 : T n q 72 [1, 1, 1, 1] (S2 a0 i1 t2 i3 i4 i5 t6 i7 i8 b9) sg (K2 q n K) =
  (bcond (i1 == 7) (oI sg a0 1 fun i302 => objSet sg a0 1 [.int .i64 (IntKind.i64.wrap (i302 + 1))] fun sg303 => cP q 61 [.ptr a0 0, .str (⟨#[59]⟩ : ByteArray)] sg303 (pan K) fun r305 sg304 => C n q 72 [1, 1, 1, 1, 0, 0, 1, 0, 1, 1] (S3 a0 i1 t2 i3 i4 i5 t6 i7 i8 b9 (i1 == 7)) sg304 (K3 q n K)) (bcond (i1 == 6) (bcond b9 (oI sg a0 1 fun i307 => objSet sg a0 1 [.int .i64 (IntKind.i64.wrap (i307 + 2))] fun sg308 => cNd q 62 [.ptr a0 0, .int .i64 25, .str t2, .int .i64 i3, .list false []] sg308 (pan K) fun i310 t311 i312 i313 r314 sg309 => K ⟨false, .tup [.agg [.int .i64 i310, .str t311, .int .i64 i312, .int .i64 i313, .list false r314], .bool true]⟩ sg309) (K ⟨false, .tup [.agg ([.int .i64 0, .str (⟨#[]⟩ : ByteArray), .int .i64 0, .int .i64 0, .list false []]), .bool false]⟩ sg)) (K ⟨false, .tup [.agg ([.int .i64 0, .str (⟨#[]⟩ : ByteArray), .int .i64 0, .int .i64 0, .list false []]), .bool false]⟩ sg))) := by kernel_rfl
theorem cut3 : T n q 72 [1, 1, 1, 1, 0, 0, 1, 0, 1, 1] (S3 a0 i1 t2 i3 i4 i5 t6 i7 i8 b9 b10) sg (K3 q n K) =
  (cNd q 62 [.ptr a0 0, .int .i64 26, .str t2, .int .i64 i3, .list false []] sg (pan K) fun i402 t403 i404 i405 r406 sg401 => K ⟨false, .tup [.agg [.int .i64 i402, .str t403, .int .i64 i404, .int .i64 i405, .list false r406], .bool true]⟩ sg401) := by kernel_rfl
theorem eq (a0 : Nat) : B n q 72 sg [.ptr a0 0] K =
  (cTok q 59 [.ptr a0 0, .int .i64 0] sg (pan K) fun i2 t3 i4 i5 sg1 => C n q 72 [1, 1] (S0 a0 i2 t3 i4 i5) sg1 (K0 q n K)) := by kernel_rfl
end syntax_parser_part
namespace syntax_parser_block
def S0 (a0 : Nat) (i1 : Int) : List PV := .ptr a0 0 :: .skip :: .box ([.int .i64 0, .str (⟨#[]⟩ : ByteArray), .int .i64 0, .int .i64 0, .list true []]) :: .int .i64 i1 :: .skip :: .undef :: U4 (U2 (.skip :: .undef :: U8 (U2 [])))
def K0 (q : Caller) (n : Nat) (K : KT) : Cont := (fK (En n) 74 K)
def S1 (a0 : Nat) (i1 : Int) : List PV := .ptr a0 0 :: .skip :: .box ([.int .i64 0, .str (⟨#[]⟩ : ByteArray), .int .i64 0, .int .i64 0, .list true []]) :: .int .i64 i1 :: .skip :: .undef :: U4 (U2 (.skip :: .undef :: U8 (U2 [])))
def K1 (q : Caller) (n : Nat) (K : KT) : Cont := (fK (En n) 74 K)
def S2 (a0 : Nat) (i1 : Int) (r2 : List (List PV)) (p3 : PV) : List PV := .ptr a0 0 :: .skip :: .box ([.int .i64 0, .str (⟨#[]⟩ : ByteArray), .int .i64 0, .int .i64 0, .list true []]) :: .int .i64 i1 :: .list true r2 :: .undef :: U4 (U2 (p3 :: .undef :: U8 (U2 [])))
def K2 (q : Caller) (n : Nat) (K : KT) : Cont := (blockK 0 (sK (En n) cutsOf q 74 [1, 1, 1, 1, 1] (fK (En n) 74 K)))
def S3 (a0 : Nat) (i1 : Int) (r2 : List (List PV)) (b3 : Bool) : List PV := .ptr a0 0 :: .skip :: .box ([.int .i64 0, .str (⟨#[]⟩ : ByteArray), .int .i64 0, .int .i64 0, .list true []]) :: .int .i64 i1 :: .list true r2 :: .undef :: U4 (U2 (.bool b3 :: .undef :: U8 (U2 [])))
def K3 (q : Caller) (n m2 : Nat) (K : KT) : Cont := (lK (En n) q 74 [1, 1, 1, 1, 0, 0, 0] (blockK 0 (sK (En n) cutsOf q 74 [1, 1, 1, 1, 1] (fK (En n) 74 K))) m2)
def S4 (a0 : Nat) (i1 : Int) (r2 : List (List PV)) (b3 : Bool) : List PV := .ptr a0 0 :: .skip :: .box ([.int .i64 0, .str (⟨#[]⟩ : ByteArray), .int .i64 0, .int .i64 0, .list true []]) :: .int .i64 i1 :: .list true r2 :: .undef :: U4 (U2 (.bool b3 :: .undef :: U8 (U2 [])))
def K4 (q : Caller) (n : Nat) (K : KT) : Cont := (fK (En n) 74 K)
def S5 (a0 : Nat) (i1 : Int) (r2 : List (List PV)) (b3 : Bool) : List PV := .ptr a0 0 :: .skip :: .box ([.int .i64 0, .str (⟨#[]⟩ : ByteArray), .int .i64 0, .int .i64 0, .list true []]) :: .int .i64 i1 :: .list true r2 :: .undef :: U4 (U2 (.bool b3 :: .undef :: U8 (U2 [])))
def K5 (q : Caller) (n : Nat) (K : KT) : Cont := (fK (En n) 74 K)
theorem cut0 : T n q 74 [1, 1] (S0 a0 i1) sg (K0 q n K) =
  (cP q 61 [.ptr a0 0, .str (⟨#[123]⟩ : ByteArray)] sg (pan K) fun r102 sg101 => C n q 74 [1, 1, 1] (S1 a0 i1) sg101 (K1 q n K)) := by kernel_rfl
theorem cut1 : T n q 74 [1, 1, 1] (S1 a0 i1) sg (K1 q n K) =
  (L n q 74 [1, 1, 1, 1, 0, 0, 0] (S2 a0 i1 [] PV.skip) sg (K2 q n K) n) := by kernel_rfl
theorem loop2 : T n q 74 [1, 1, 1, 1, 0, 0, 0] (S2 a0 i1 r2 p3) sg (lK (En n) q 74 [1, 1, 1, 1, 0, 0, 0] (K2 q n K) m2) =
  (cB q 58 [.ptr a0 0, .str (⟨#[125]⟩ : ByteArray)] sg (pan K) fun b302 sg301 => bcond (!b302) (C n q 74 [1, 1, 1, 1, 0, 0, 0, 1] (S3 a0 i1 r2 (!b302)) sg301 (K3 q n m2 K)) (C n q 74 [1, 1, 1, 1, 1] (S4 a0 i1 r2 (!b302)) sg301 (K4 q n K))) := by kernel_rfl
theorem cut3 : T n q 74 [1, 1, 1, 1, 0, 0, 0, 1] (S3 a0 i1 r2 b3) sg (K3 q n m2 K) =
  (cNd q 40 [.ptr a0 0] sg (pan K) fun i402 t403 i404 i405 r406 sg401 => chk ((rowsOk 5 r2) && (decide ((r2.length + 1) ≤ mostL))) (L n q 74 [1, 1, 1, 1, 0, 0, 0] (S2 a0 i1 (r2 ++ [[PV.int .i64 i402, .str t403, .int .i64 i404, .int .i64 i405, .list false r406]]) (PV.bool b3)) sg401 (K2 q n K) m2)) := by kernel_rfl
theorem cut4 : T n q 74 [1, 1, 1, 1, 1] (S4 a0 i1 r2 b3) sg (K4 q n K) =
  (cP q 61 [.ptr a0 0, .str (⟨#[125]⟩ : ByteArray)] sg (pan K) fun r502 sg501 => C n q 74 [1, 1, 1, 1, 1, 1] (S5 a0 i1 r2 b3) sg501 (K5 q n K)) := by kernel_rfl
theorem cut5 : T n q 74 [1, 1, 1, 1, 1, 1] (S5 a0 i1 r2 b3) sg (K5 q n K) =
  (cNd q 62 [.ptr a0 0, .int .i64 9, .str (⟨#[]⟩ : ByteArray), .int .i64 i1, .list false r2] sg (pan K) fun i602 t603 i604 i605 r606 sg601 => K ⟨false, .agg [.int .i64 i602, .str t603, .int .i64 i604, .int .i64 i605, .list false r606]⟩ sg601) := by kernel_rfl
theorem eq (a0 : Nat) : B n q 74 sg [.ptr a0 0] K =
  (cTok q 59 [.ptr a0 0, .int .i64 0] sg (pan K) fun i2 t3 i4 i5 sg1 => C n q 74 [1, 1] (S0 a0 i4) sg1 (K0 q n K)) := by kernel_rfl
end syntax_parser_block
namespace syntax_parser_cond
def S0 (a0 : Nat) : List PV := .ptr a0 0 :: .skip :: .box ([.int .i64 0, .str (⟨#[]⟩ : ByteArray), .int .i64 0, .int .i64 0, .list true []]) :: .skip :: .undef :: U4 (U2 [])
def K0 (q : Caller) (n : Nat) (K : KT) : Cont := (fK (En n) 76 K)
theorem cut0 : T n q 76 [1, 1] (S0 a0) sg (K0 q n K) =
  (cNd q 39 [.ptr a0 0] sg (pan K) fun i102 t103 i104 i105 r106 sg101 => cP q 61 [.ptr a0 0, .str (⟨#[41]⟩ : ByteArray)] sg101 (pan K) fun r108 sg107 => K ⟨false, .agg [.int .i64 i102, .str t103, .int .i64 i104, .int .i64 i105, .list false r106]⟩ sg107) := by kernel_rfl
theorem eq (a0 : Nat) : B n q 76 sg [.ptr a0 0] K =
  (cP q 61 [.ptr a0 0, .str (⟨#[40]⟩ : ByteArray)] sg (pan K) fun r2 sg1 => C n q 76 [1, 1] (S0 a0) sg1 (K0 q n K)) := by kernel_rfl
end syntax_parser_cond
namespace syntax_parser_class
def S0 (a0 a1 : Nat) (i2 : Int) : List PV := .ptr a0 0 :: .eaddr [.ptr a1 0] 0 :: .box ([.int .i64 0, .str (⟨#[]⟩ : ByteArray), .int .i64 0, .int .i64 0, .list true []]) :: .int .i64 i2 :: .skip :: .skip :: .skip :: .skip :: .skip :: .skip :: .skip :: .undef :: U8 (U4 (.skip :: .undef :: U8 (.skip :: U16 (U8 []))))
def K0 (q : Caller) (n : Nat) (K : KT) : Cont := (fK (En n) 78 K)
def S1 (a0 a1 : Nat) (i2 i3 : Int) (t4 : ByteArray) (i5 i6 : Int) : List PV := .ptr a0 0 :: .eaddr [.ptr a1 0] 0 :: .box ([.int .i64 0, .str (⟨#[]⟩ : ByteArray), .int .i64 0, .int .i64 0, .list true []]) :: .int .i64 i2 :: .box [.int .i64 i3, .str t4, .int .i64 i5, .int .i64 i6] :: .skip :: .skip :: .skip :: .skip :: .skip :: .skip :: .undef :: U8 (U4 (.skip :: .undef :: U8 (.skip :: U16 (U8 []))))
def K1 (q : Caller) (n : Nat) (K : KT) : Cont := (fK (En n) 78 K)
def S2 (a0 a1 : Nat) (i2 i3 : Int) (t4 : ByteArray) (i5 i6 : Int) (r7 : List (List PV)) (b8 : Bool) : List PV := .ptr a0 0 :: .eaddr [.ptr a1 0] 0 :: .box ([.int .i64 0, .str (⟨#[]⟩ : ByteArray), .int .i64 0, .int .i64 0, .list true []]) :: .int .i64 i2 :: .box [.int .i64 i3, .str t4, .int .i64 i5, .int .i64 i6] :: .list true r7 :: .list true [] :: .skip :: .skip :: .skip :: .skip :: .undef :: U8 (U4 (.bool b8 :: .undef :: U8 (.skip :: U16 (U8 []))))
def K2 (q : Caller) (n : Nat) (K : KT) : Cont := (fK (En n) 78 K)
def S3 (a0 a1 : Nat) (i2 i3 : Int) (t4 : ByteArray) (i5 i6 : Int) (r7 : List (List PV)) (i8 : Int) (t9 : ByteArray) (i10 i11 : Int) (r12 : List (List PV)) (b13 : Bool) : List PV := .ptr a0 0 :: .eaddr [.ptr a1 0] 0 :: .box ([.int .i64 0, .str (⟨#[]⟩ : ByteArray), .int .i64 0, .int .i64 0, .list true []]) :: .int .i64 i2 :: .box [.int .i64 i3, .str t4, .int .i64 i5, .int .i64 i6] :: .list true r7 :: .list true [] :: .box [.int .i64 i8, .str t9, .int .i64 i10, .int .i64 i11, .list false r12] :: .skip :: .skip :: .skip :: .undef :: U8 (U4 (.bool b13 :: .undef :: U8 (.skip :: U16 (U8 []))))
def K3 (q : Caller) (n : Nat) (K : KT) : Cont := (fK (En n) 78 K)
def S4 (a0 a1 : Nat) (i2 i3 : Int) (t4 : ByteArray) (i5 i6 : Int) (r7 : List (List PV)) (p8 : PV) (i9 : Int) (t10 : ByteArray) (i11 i12 : Int) (r13 : List (List PV)) (b14 b15 : Bool) : List PV := .ptr a0 0 :: .eaddr [.ptr a1 0] 0 :: .box ([.int .i64 0, .str (⟨#[]⟩ : ByteArray), .int .i64 0, .int .i64 0, .list true []]) :: .int .i64 i2 :: .box [.int .i64 i3, .str t4, .int .i64 i5, .int .i64 i6] :: .list true r7 :: p8 :: .box [.int .i64 i9, .str t10, .int .i64 i11, .int .i64 i12, .list false r13] :: .skip :: .skip :: .skip :: .undef :: U8 (U4 (.bool b14 :: .undef :: U8 (.bool b15 :: U16 (U8 []))))
def K4 (q : Caller) (n : Nat) (K : KT) : Cont := (fK (En n) 78 K)
def S5 (a0 a1 : Nat) (i2 i3 : Int) (t4 : ByteArray) (i5 i6 : Int) (r7 : List (List PV)) (p8 : PV) (i9 : Int) (t10 : ByteArray) (i11 i12 : Int) (r13 : List (List PV)) (i14 : Int) (t15 : ByteArray) (i16 i17 : Int) (r18 : List (List PV)) (b19 b20 : Bool) : List PV := .ptr a0 0 :: .eaddr [.ptr a1 0] 0 :: .box ([.int .i64 0, .str (⟨#[]⟩ : ByteArray), .int .i64 0, .int .i64 0, .list true []]) :: .int .i64 i2 :: .box [.int .i64 i3, .str t4, .int .i64 i5, .int .i64 i6] :: .list true r7 :: p8 :: .box [.int .i64 i9, .str t10, .int .i64 i11, .int .i64 i12, .list false r13] :: .box [.int .i64 i14, .str t15, .int .i64 i16, .int .i64 i17, .list false r18] :: .skip :: .skip :: .undef :: U8 (U4 (.bool b19 :: .undef :: U8 (.bool b20 :: U16 (U8 []))))
def K5 (q : Caller) (n : Nat) (K : KT) : Cont := (fK (En n) 78 K)
def S6 (a0 a1 : Nat) (i2 i3 : Int) (t4 : ByteArray) (i5 i6 : Int) (r7 : List (List PV)) (p8 : PV) (i9 : Int) (t10 : ByteArray) (i11 i12 : Int) (r13 : List (List PV)) (i14 : Int) (t15 : ByteArray) (i16 i17 : Int) (r18 : List (List PV)) (p19 : PV) (b20 b21 : Bool) : List PV := .ptr a0 0 :: .eaddr [.ptr a1 0] 0 :: .box ([.int .i64 0, .str (⟨#[]⟩ : ByteArray), .int .i64 0, .int .i64 0, .list true []]) :: .int .i64 i2 :: .box [.int .i64 i3, .str t4, .int .i64 i5, .int .i64 i6] :: .list true r7 :: p8 :: .box [.int .i64 i9, .str t10, .int .i64 i11, .int .i64 i12, .list false r13] :: .box [.int .i64 i14, .str t15, .int .i64 i16, .int .i64 i17, .list false r18] :: p19 :: .skip :: .undef :: U8 (U4 (.bool b20 :: .undef :: U8 (.bool b21 :: U16 (U8 []))))
def K6 (q : Caller) (n : Nat) (K : KT) : Cont := (fK (En n) 78 K)
def S7 (a0 a1 : Nat) (i2 i3 : Int) (t4 : ByteArray) (i5 i6 : Int) (r7 : List (List PV)) (p8 : PV) (i9 : Int) (t10 : ByteArray) (i11 i12 : Int) (r13 : List (List PV)) (i14 : Int) (t15 : ByteArray) (i16 i17 : Int) (r18 : List (List PV)) (p19 : PV) (i20 : Int) (t21 : ByteArray) (i22 i23 : Int) (r24 : List (List PV)) (b25 b26 : Bool) : List PV := .ptr a0 0 :: .eaddr [.ptr a1 0] 0 :: .box ([.int .i64 0, .str (⟨#[]⟩ : ByteArray), .int .i64 0, .int .i64 0, .list true []]) :: .int .i64 i2 :: .box [.int .i64 i3, .str t4, .int .i64 i5, .int .i64 i6] :: .list true r7 :: p8 :: .box [.int .i64 i9, .str t10, .int .i64 i11, .int .i64 i12, .list false r13] :: .box [.int .i64 i14, .str t15, .int .i64 i16, .int .i64 i17, .list false r18] :: p19 :: .box [.int .i64 i20, .str t21, .int .i64 i22, .int .i64 i23, .list false r24] :: .undef :: U8 (U4 (.bool b25 :: .undef :: U8 (.bool b26 :: U16 (U8 []))))
def K7 (q : Caller) (n : Nat) (K : KT) : Cont := (fK (En n) 78 K)
def S8 (a0 a1 : Nat) (i2 i3 : Int) (t4 : ByteArray) (i5 i6 : Int) (r7 : List (List PV)) (p8 : PV) (i9 : Int) (t10 : ByteArray) (i11 i12 : Int) (r13 : List (List PV)) (i14 : Int) (t15 : ByteArray) (i16 i17 : Int) (r18 : List (List PV)) (p19 : PV) (i20 : Int) (t21 : ByteArray) (i22 i23 : Int) (r24 : List (List PV)) (b25 b26 : Bool) : List PV := .ptr a0 0 :: .eaddr [.ptr a1 0] 0 :: .box ([.int .i64 0, .str (⟨#[]⟩ : ByteArray), .int .i64 0, .int .i64 0, .list true []]) :: .int .i64 i2 :: .box [.int .i64 i3, .str t4, .int .i64 i5, .int .i64 i6] :: .list true r7 :: p8 :: .box [.int .i64 i9, .str t10, .int .i64 i11, .int .i64 i12, .list false r13] :: .box [.int .i64 i14, .str t15, .int .i64 i16, .int .i64 i17, .list false r18] :: p19 :: .box [.int .i64 i20, .str t21, .int .i64 i22, .int .i64 i23, .list false r24] :: .undef :: U8 (U4 (.bool b25 :: .undef :: U8 (.bool b26 :: U16 (U8 []))))
def K8 (q : Caller) (n : Nat) (K : KT) : Cont := (fK (En n) 78 K)
theorem cut0 : T n q 78 [1, 1] (S0 a0 a1 i2) sg (K0 q n K) =
  (oI sg a1 1 fun i102 => objSet sg a1 1 [.int .i64 (IntKind.i64.wrap (i102 + 1))] fun sg103 => cTok q 60 [.ptr a1 0, .int .i64 1] sg103 (pan K) fun i105 t106 i107 i108 sg104 => C n q 78 [1, 1, 1, 1] (S1 a0 a1 i2 i105 t106 i107 i108) sg104 (K1 q n K)) := by kernel_rfl
theorem cut1 : T n q 78 [1, 1, 1, 1] (S1 a0 a1 i2 i3 t4 i5 i6) sg (K1 q n K) =
  (cB q 75 [.ptr a1 0, .str (⟨#[101, 120, 116, 101, 110, 100, 115]⟩ : ByteArray)] sg (pan K) fun b202 sg201 => bcond b202 (cNd q 115 [.ptr a1 0] sg201 (pan K) fun i204 t205 i206 i207 r208 sg203 => C n q 78 [1, 1, 1, 1, 1, 1] (S2 a0 a1 i2 i3 t4 i5 i6 ([[PV.int .i64 i204, .str t205, .int .i64 i206, .int .i64 i207, .list false r208]]) b202) sg203 (K2 q n K)) (C n q 78 [1, 1, 1, 1, 1, 1] (S2 a0 a1 i2 i3 t4 i5 i6 [] b202) sg201 (K2 q n K))) := by kernel_rfl
theorem cut2 : T n q 78 [1, 1, 1, 1, 1, 1] (S2 a0 a1 i2 i3 t4 i5 i6 r7 b8) sg (K2 q n K) =
  (cNd q 77 [.ptr a1 0, .list false r7] sg (pan K) fun i302 t303 i304 i305 r306 sg301 => C n q 78 [1, 1, 1, 1, 1, 1, 1] (S3 a0 a1 i2 i3 t4 i5 i6 r7 i302 t303 i304 i305 r306 b8) sg301 (K3 q n K)) := by kernel_rfl
theorem cut3 : T n q 78 [1, 1, 1, 1, 1, 1, 1] (S3 a0 a1 i2 i3 t4 i5 i6 r7 i8 t9 i10 i11 r12 b13) sg (K3 q n K) =
  (cB q 75 [.ptr a1 0, .str (⟨#[105, 109, 112, 108, 101, 109, 101, 110, 116, 115]⟩ : ByteArray)] sg (pan K) fun b402 sg401 => bcond b402 (cP q 116 [.ptr a1 0, .fn 115 [.ptr a1 0] []] sg401 (pan K) fun r404 sg403 => C n q 78 [1, 1, 1, 1, 1, 1, 1, 1] (S4 a0 a1 i2 i3 t4 i5 i6 r7 (mval r404) i8 t9 i10 i11 r12 b13 b402) sg403 (K4 q n K)) (C n q 78 [1, 1, 1, 1, 1, 1, 1, 1] (S4 a0 a1 i2 i3 t4 i5 i6 r7 (PV.list true []) i8 t9 i10 i11 r12 b13 b402) sg401 (K4 q n K))) := by kernel_rfl
theorem cut4 : T n q 78 [1, 1, 1, 1, 1, 1, 1, 1] (S4 a0 a1 i2 i3 t4 i5 i6 r7 p8 i9 t10 i11 i12 r13 b14 b15) sg (K4 q n K) =
  (cNd q 77 [.ptr a1 0, ((p8).strip).strip] sg (pan K) fun i502 t503 i504 i505 r506 sg501 => chk (!(isBaddr 8 p8 || (isBaddr 8 ((p8).strip) || false))) (C n q 78 [1, 1, 1, 1, 1, 1, 1, 1, 1] (S5 a0 a1 i2 i3 t4 i5 i6 r7 p8 i9 t10 i11 i12 r13 i502 t503 i504 i505 r506 b14 b15) sg501 (K5 q n K))) := by kernel_rfl
theorem cut5 : T n q 78 [1, 1, 1, 1, 1, 1, 1, 1, 1] (S5 a0 a1 i2 i3 t4 i5 i6 r7 p8 i9 t10 i11 i12 r13 i14 t15 i16 i17 r18 b19 b20) sg (K5 q n K) =
  (cP q 117 [.ptr a1 0, .fn 118 [] ([.eaddr [.ptr a1 0] 0])] sg (pan K) fun r602 sg601 => C n q 78 [1, 1, 1, 1, 1, 1, 1, 1, 1, 1] (S6 a0 a1 i2 i3 t4 i5 i6 r7 p8 i9 t10 i11 i12 r13 i14 t15 i16 i17 r18 (mval r602) b19 b20) sg601 (K6 q n K)) := by kernel_rfl
theorem cut6 : T n q 78 [1, 1, 1, 1, 1, 1, 1, 1, 1, 1] (S6 a0 a1 i2 i3 t4 i5 i6 r7 p8 i9 t10 i11 i12 r13 i14 t15 i16 i17 r18 p19 b20 b21) sg (K6 q n K) =
  (cNd q 77 [.ptr a1 0, ((p19).strip).strip] sg (pan K) fun i702 t703 i704 i705 r706 sg701 => chk (!(isBaddr 10 p8 || (isBaddr 10 p19 || (isBaddr 10 ((p19).strip) || false)))) (C n q 78 [1, 1, 1, 1, 1, 1, 1, 1, 1, 1, 1] (S7 a0 a1 i2 i3 t4 i5 i6 r7 p8 i9 t10 i11 i12 r13 i14 t15 i16 i17 r18 p19 i702 t703 i704 i705 r706 b20 b21) sg701 (K7 q n K))) := by kernel_rfl
theorem cut7 : T n q 78 [1, 1, 1, 1, 1, 1, 1, 1, 1, 1, 1] (S7 a0 a1 i2 i3 t4 i5 i6 r7 p8 i9 t10 i11 i12 r13 i14 t15 i16 i17 r18 p19 i20 t21 i22 i23 r24 b25 b26) sg (K7 q n K) =
  (cP q 61 [.ptr a1 0, .str (⟨#[125]⟩ : ByteArray)] sg (pan K) fun r802 sg801 => C n q 78 [1, 1, 1, 1, 1, 1, 1, 1, 1, 1, 1, 1] (S8 a0 a1 i2 i3 t4 i5 i6 r7 p8 i9 t10 i11 i12 r13 i14 t15 i16 i17 r18 p19 i20 t21 i22 i23 r24 b25 b26) sg801 (K8 q n K)) := by kernel_rfl
theorem cut8 : T n q 78 [1, 1, 1, 1, 1, 1, 1, 1, 1, 1, 1, 1] (S8 a0 a1 i2 i3 t4 i5 i6 r7 p8 i9 t10 i11 i12 r13 i14 t15 i16 i17 r18 p19 i20 t21 i22 i23 r24 b25 b26) sg (K8 q n K) =
  (cNd q 62 [.ptr a1 0, .int .i64 3, .str t4, .int .i64 i2, .list false ([[PV.int .i64 i9, .str t10, .int .i64 i11, .int .i64 i12, .list false r13], [.int .i64 i14, .str t15, .int .i64 i16, .int .i64 i17, .list false r18], [.int .i64 i20, .str t21, .int .i64 i22, .int .i64 i23, .list false r24]])] sg (pan K) fun i902 t903 i904 i905 r906 sg901 => K ⟨false, .agg [.int .i64 i902, .str t903, .int .i64 i904, .int .i64 i905, .list false r906]⟩ sg901) := by kernel_rfl
theorem eq (a0 : Nat) : B n q 78 sg [.ptr a0 0] K =
  (cTok q 59 [.ptr a0 0, .int .i64 0] sg (pan K) fun i2 t3 i4 i5 sg1 => C n q 78 [1, 1] (S0 a0 a0 i4) sg1 (K0 q n K)) := by kernel_rfl
end syntax_parser_class
namespace syntax_parser_fun
def S0 (a0 : Nat) (b1 : Bool) (i2 : Int) : List PV := .ptr a0 0 :: .bool b1 :: .skip :: .skip :: .box ([.int .i64 0, .str (⟨#[]⟩ : ByteArray), .int .i64 0, .int .i64 0, .list true []]) :: .int .i64 i2 :: .skip :: .skip :: .skip :: .skip :: .skip :: .skip :: .skip :: .undef :: U8 (U2 (.skip :: U8 (U2 (.skip :: U8 (.skip :: .undef :: U8 (.skip :: .undef :: U8 (U2 [])))))))
def K0 (q : Caller) (n : Nat) (K : KT) : Cont := (fK (En n) 80 K)
def S1 (a0 : Nat) (b1 : Bool) (i2 : Int) : List PV := .ptr a0 0 :: .bool b1 :: .skip :: .skip :: .box ([.int .i64 0, .str (⟨#[]⟩ : ByteArray), .int .i64 0, .int .i64 0, .list true []]) :: .int .i64 i2 :: .skip :: .skip :: .skip :: .skip :: .skip :: .skip :: .skip :: .undef :: U8 (U2 (.skip :: U8 (U2 (.skip :: U8 (.skip :: .undef :: U8 (.skip :: .undef :: U8 (U2 [])))))))
def K1 (q : Caller) (n : Nat) (K : KT) : Cont := (fK (En n) 80 K)
def S2 (a0 : Nat) (b1 : Bool) (i2 i3 : Int) (t4 : ByteArray) (i5 i6 : Int) : List PV := .ptr a0 0 :: .bool b1 :: .skip :: .skip :: .box ([.int .i64 0, .str (⟨#[]⟩ : ByteArray), .int .i64 0, .int .i64 0, .list true []]) :: .int .i64 i2 :: .box [.int .i64 i3, .str t4, .int .i64 i5, .int .i64 i6] :: .skip :: .skip :: .skip :: .skip :: .skip :: .skip :: .undef :: U8 (U2 (.skip :: U8 (U2 (.skip :: U8 (.skip :: .undef :: U8 (.skip :: .undef :: U8 (U2 [])))))))
def K2 (q : Caller) (n : Nat) (K : KT) : Cont := (fK (En n) 80 K)
def S3 (a0 : Nat) (b1 : Bool) (i2 i3 : Int) (t4 : ByteArray) (i5 i6 : Int) : List PV := .ptr a0 0 :: .bool b1 :: .skip :: .skip :: .box ([.int .i64 0, .str (⟨#[]⟩ : ByteArray), .int .i64 0, .int .i64 0, .list true []]) :: .int .i64 i2 :: .box [.int .i64 i3, .str t4, .int .i64 i5, .int .i64 i6] :: .skip :: .skip :: .skip :: .skip :: .skip :: .skip :: .undef :: U8 (U2 (.skip :: U8 (U2 (.skip :: U8 (.skip :: .undef :: U8 (.skip :: .undef :: U8 (U2 [])))))))
def K3 (q : Caller) (n : Nat) (K : KT) : Cont := (fK (En n) 80 K)
def S4 (a0 : Nat) (b1 : Bool) (i2 i3 : Int) (t4 : ByteArray) (i5 i6 : Int) (p7 : PV) (b8 : Bool) : List PV := .ptr a0 0 :: .bool b1 :: .skip :: .skip :: .box ([.int .i64 0, .str (⟨#[]⟩ : ByteArray), .int .i64 0, .int .i64 0, .list true []]) :: .int .i64 i2 :: .box [.int .i64 i3, .str t4, .int .i64 i5, .int .i64 i6] :: p7 :: .list true [] :: .list true [] :: .skip :: .skip :: .skip :: .undef :: U8 (U2 (.bool b8 :: U8 (U2 (.skip :: U8 (.skip :: .undef :: U8 (.skip :: .undef :: U8 (U2 [])))))))
def K4 (q : Caller) (n : Nat) (K : KT) : Cont := (fK (En n) 80 K)
def S5 (a0 : Nat) (b1 : Bool) (i2 i3 : Int) (t4 : ByteArray) (i5 i6 : Int) (p7 : PV) (i8 : Int) (t9 : ByteArray) (i10 i11 : Int) (r12 : List (List PV)) (b13 : Bool) : List PV := .ptr a0 0 :: .bool b1 :: .skip :: .skip :: .box ([.int .i64 0, .str (⟨#[]⟩ : ByteArray), .int .i64 0, .int .i64 0, .list true []]) :: .int .i64 i2 :: .box [.int .i64 i3, .str t4, .int .i64 i5, .int .i64 i6] :: p7 :: .list true [] :: .list true [] :: .box [.int .i64 i8, .str t9, .int .i64 i10, .int .i64 i11, .list false r12] :: .skip :: .skip :: .undef :: U8 (U2 (.bool b13 :: U8 (U2 (.skip :: U8 (.skip :: .undef :: U8 (.skip :: .undef :: U8 (U2 [])))))))
def K5 (q : Caller) (n : Nat) (K : KT) : Cont := (fK (En n) 80 K)
def S6 (a0 : Nat) (b1 : Bool) (i2 i3 : Int) (t4 : ByteArray) (i5 i6 : Int) (p7 : PV) (i8 : Int) (t9 : ByteArray) (i10 i11 : Int) (r12 : List (List PV)) (b13 : Bool) : List PV := .ptr a0 0 :: .bool b1 :: .skip :: .skip :: .box ([.int .i64 0, .str (⟨#[]⟩ : ByteArray), .int .i64 0, .int .i64 0, .list true []]) :: .int .i64 i2 :: .box [.int .i64 i3, .str t4, .int .i64 i5, .int .i64 i6] :: p7 :: .list true [] :: .list true [] :: .box [.int .i64 i8, .str t9, .int .i64 i10, .int .i64 i11, .list false r12] :: .skip :: .skip :: .undef :: U8 (U2 (.bool b13 :: U8 (U2 (.skip :: U8 (.skip :: .undef :: U8 (.skip :: .undef :: U8 (U2 [])))))))
def K6 (q : Caller) (n : Nat) (K : KT) : Cont := (fK (En n) 80 K)
def S7 (a0 : Nat) (b1 : Bool) (i2 i3 : Int) (t4 : ByteArray) (i5 i6 : Int) (p7 : PV) (r8 : List (List PV)) (i9 : Int) (t10 : ByteArray) (i11 i12 : Int) (r13 : List (List PV)) (b14 b15 : Bool) : List PV := .ptr a0 0 :: .bool b1 :: .skip :: .skip :: .box ([.int .i64 0, .str (⟨#[]⟩ : ByteArray), .int .i64 0, .int .i64 0, .list true []]) :: .int .i64 i2 :: .box [.int .i64 i3, .str t4, .int .i64 i5, .int .i64 i6] :: p7 :: .list true r8 :: .list true [] :: .box [.int .i64 i9, .str t10, .int .i64 i11, .int .i64 i12, .list false r13] :: .skip :: .skip :: .undef :: U8 (U2 (.bool b14 :: U8 (U2 (.bool b15 :: U8 (.skip :: .undef :: U8 (.skip :: .undef :: U8 (U2 [])))))))
def K7 (q : Caller) (n : Nat) (K : KT) : Cont := (fK (En n) 80 K)
def S8 (a0 : Nat) (b1 : Bool) (i2 i3 : Int) (t4 : ByteArray) (i5 i6 : Int) (p7 : PV) (r8 : List (List PV)) (i9 : Int) (t10 : ByteArray) (i11 i12 : Int) (r13 : List (List PV)) (i14 : Int) (t15 : ByteArray) (i16 i17 : Int) (r18 : List (List PV)) (b19 b20 : Bool) : List PV := .ptr a0 0 :: .bool b1 :: .skip :: .skip :: .box ([.int .i64 0, .str (⟨#[]⟩ : ByteArray), .int .i64 0, .int .i64 0, .list true []]) :: .int .i64 i2 :: .box [.int .i64 i3, .str t4, .int .i64 i5, .int .i64 i6] :: p7 :: .list true r8 :: .list true [] :: .box [.int .i64 i9, .str t10, .int .i64 i11, .int .i64 i12, .list false r13] :: .box [.int .i64 i14, .str t15, .int .i64 i16, .int .i64 i17, .list false r18] :: .skip :: .undef :: U8 (U2 (.bool b19 :: U8 (U2 (.bool b20 :: U8 (.skip :: .undef :: U8 (.skip :: .undef :: U8 (U2 [])))))))
def K8 (q : Caller) (n : Nat) (K : KT) : Cont := (fK (En n) 80 K)
def S9 (a0 : Nat) (b1 : Bool) (i2 i3 : Int) (t4 : ByteArray) (i5 i6 : Int) (p7 : PV) (r8 r9 : List (List PV)) (i10 : Int) (t11 : ByteArray) (i12 i13 : Int) (r14 : List (List PV)) (i15 : Int) (t16 : ByteArray) (i17 i18 : Int) (r19 : List (List PV)) (b20 b21 b22 : Bool) : List PV := .ptr a0 0 :: .bool b1 :: .skip :: .skip :: .box ([.int .i64 0, .str (⟨#[]⟩ : ByteArray), .int .i64 0, .int .i64 0, .list true []]) :: .int .i64 i2 :: .box [.int .i64 i3, .str t4, .int .i64 i5, .int .i64 i6] :: p7 :: .list true r8 :: .list true r9 :: .box [.int .i64 i10, .str t11, .int .i64 i12, .int .i64 i13, .list false r14] :: .box [.int .i64 i15, .str t16, .int .i64 i17, .int .i64 i18, .list false r19] :: .skip :: .undef :: U8 (U2 (.bool b20 :: U8 (U2 (.bool b21 :: U8 (.bool b22 :: .undef :: U8 (.skip :: .undef :: U8 (U2 [])))))))
def K9 (q : Caller) (n : Nat) (K : KT) : Cont := (fK (En n) 80 K)
def S10 (a0 : Nat) (b1 : Bool) (i2 i3 : Int) (t4 : ByteArray) (i5 i6 : Int) (p7 : PV) (r8 r9 : List (List PV)) (i10 : Int) (t11 : ByteArray) (i12 i13 : Int) (r14 : List (List PV)) (i15 : Int) (t16 : ByteArray) (i17 i18 : Int) (r19 : List (List PV)) (i20 : Int) (t21 : ByteArray) (i22 i23 : Int) (r24 : List (List PV)) (b25 b26 b27 : Bool) : List PV := .ptr a0 0 :: .bool b1 :: .skip :: .skip :: .box ([.int .i64 0, .str (⟨#[]⟩ : ByteArray), .int .i64 0, .int .i64 0, .list true []]) :: .int .i64 i2 :: .box [.int .i64 i3, .str t4, .int .i64 i5, .int .i64 i6] :: p7 :: .list true r8 :: .list true r9 :: .box [.int .i64 i10, .str t11, .int .i64 i12, .int .i64 i13, .list false r14] :: .box [.int .i64 i15, .str t16, .int .i64 i17, .int .i64 i18, .list false r19] :: .box [.int .i64 i20, .str t21, .int .i64 i22, .int .i64 i23, .list false r24] :: .undef :: U8 (U2 (.bool b25 :: U8 (U2 (.bool b26 :: U8 (.bool b27 :: .undef :: U8 (.skip :: .undef :: U8 (U2 [])))))))
def K10 (q : Caller) (n : Nat) (K : KT) : Cont := (fK (En n) 80 K)
def S11 (a0 : Nat) (b1 : Bool) (i2 i3 : Int) (t4 : ByteArray) (i5 i6 : Int) (p7 : PV) (r8 r9 : List (List PV)) (i10 : Int) (t11 : ByteArray) (i12 i13 : Int) (r14 : List (List PV)) (i15 : Int) (t16 : ByteArray) (i17 i18 : Int) (r19 : List (List PV)) (i20 : Int) (t21 : ByteArray) (i22 i23 : Int) (r24 : List (List PV)) (b25 b26 b27 b28 : Bool) : List PV := .ptr a0 0 :: .bool b1 :: .skip :: .skip :: .box ([.int .i64 0, .str (⟨#[]⟩ : ByteArray), .int .i64 0, .int .i64 0, .list true []]) :: .int .i64 i2 :: .box [.int .i64 i3, .str t4, .int .i64 i5, .int .i64 i6] :: p7 :: .list true r8 :: .list true r9 :: .box [.int .i64 i10, .str t11, .int .i64 i12, .int .i64 i13, .list false r14] :: .box [.int .i64 i15, .str t16, .int .i64 i17, .int .i64 i18, .list false r19] :: .box [.int .i64 i20, .str t21, .int .i64 i22, .int .i64 i23, .list false r24] :: .undef :: U8 (U2 (.bool b25 :: U8 (U2 (.bool b26 :: U8 (.bool b27 :: .undef :: U8 (.bool b28 :: .undef :: U8 (U2 [])))))))
def K11 (q : Caller) (n : Nat) (K : KT) : Cont := (fK (En n) 80 K)
theorem cut0 : T n q 80 [1, 1] (S0 a0 b1 i2) sg (K0 q n K) =
  (cP q 61 [.ptr a0 0, .str (⟨#[102, 117, 110, 99]⟩ : ByteArray)] sg (pan K) fun r102 sg101 => C n q 80 [1, 1, 1] (S1 a0 b1 i2) sg101 (K1 q n K)) := by kernel_rfl
theorem cut1 : T n q 80 [1, 1, 1] (S1 a0 b1 i2) sg (K1 q n K) =
  (cTok q 60 [.ptr a0 0, .int .i64 1] sg (pan K) fun i202 t203 i204 i205 sg201 => C n q 80 [1, 1, 1, 1] (S2 a0 b1 i2 i202 t203 i204 i205) sg201 (K2 q n K)) := by kernel_rfl
theorem cut2 : T n q 80 [1, 1, 1, 1] (S2 a0 b1 i2 i3 t4 i5 i6) sg (K2 q n K) =
  (cP q 61 [.ptr a0 0, .str (⟨#[40]⟩ : ByteArray)] sg (pan K) fun r302 sg301 => C n q 80 [1, 1, 1, 1, 1] (S3 a0 b1 i2 i3 t4 i5 i6) sg301 (K3 q n K)) := by kernel_rfl
theorem cut3 : T n q 80 [1, 1, 1, 1, 1] (S3 a0 b1 i2 i3 t4 i5 i6) sg (K3 q n K) =
  (cB q 58 [.ptr a0 0, .str (⟨#[41]⟩ : ByteArray)] sg (pan K) fun b402 sg401 => bcond (!b402) (cP q 116 [.ptr a0 0, .fn 120 [.ptr a0 0] []] sg401 (pan K) fun r404 sg403 => C n q 80 [1, 1, 1, 1, 1, 1, 1] (S4 a0 b1 i2 i3 t4 i5 i6 (mval r404) (!b402)) sg403 (K4 q n K)) (C n q 80 [1, 1, 1, 1, 1, 1, 1] (S4 a0 b1 i2 i3 t4 i5 i6 (PV.list true []) (!b402)) sg401 (K4 q n K))) := by kernel_rfl
theorem cut4 : T n q 80 [1, 1, 1, 1, 1, 1, 1] (S4 a0 b1 i2 i3 t4 i5 i6 p7 b8) sg (K4 q n K) =
  (cNd q 77 [.ptr a0 0, ((p7).strip).strip] sg (pan K) fun i502 t503 i504 i505 r506 sg501 => chk (!(isBaddr 10 p7 || (isBaddr 10 ((p7).strip) || false))) (C n q 80 [1, 1, 1, 1, 1, 1, 1, 1] (S5 a0 b1 i2 i3 t4 i5 i6 p7 i502 t503 i504 i505 r506 b8) sg501 (K5 q n K))) := by kernel_rfl
theorem cut5 : T n q 80 [1, 1, 1, 1, 1, 1, 1, 1] (S5 a0 b1 i2 i3 t4 i5 i6 p7 i8 t9 i10 i11 r12 b13) sg (K5 q n K) =
  (cP q 61 [.ptr a0 0, .str (⟨#[41]⟩ : ByteArray)] sg (pan K) fun r602 sg601 => C n q 80 [1, 1, 1, 1, 1, 1, 1, 1, 1] (S6 a0 b1 i2 i3 t4 i5 i6 p7 i8 t9 i10 i11 r12 b13) sg601 (K6 q n K)) := by kernel_rfl
theorem cut6 : T n q 80 [1, 1, 1, 1, 1, 1, 1, 1, 1] (S6 a0 b1 i2 i3 t4 i5 i6 p7 i8 t9 i10 i11 r12 b13) sg (K6 q n K) =
  (cB q 75 [.ptr a0 0, .str (⟨#[58]⟩ : ByteArray)] sg (pan K) fun b702 sg701 => bcond b702 (cNd q 115 [.ptr a0 0] sg701 (pan K) fun i704 t705 i706 i707 r708 sg703 => C n q 80 [1, 1, 1, 1, 1, 1, 1, 1, 1, 1] (S7 a0 b1 i2 i3 t4 i5 i6 p7 ([[PV.int .i64 i704, .str t705, .int .i64 i706, .int .i64 i707, .list false r708]]) i8 t9 i10 i11 r12 b13 b702) sg703 (K7 q n K)) (C n q 80 [1, 1, 1, 1, 1, 1, 1, 1, 1, 1] (S7 a0 b1 i2 i3 t4 i5 i6 p7 [] i8 t9 i10 i11 r12 b13 b702) sg701 (K7 q n K))) := by kernel_rfl
theorem cut7 : T n q 80 [1, 1, 1, 1, 1, 1, 1, 1, 1, 1] (S7 a0 b1 i2 i3 t4 i5 i6 p7 r8 i9 t10 i11 i12 r13 b14 b15) sg (K7 q n K) =
  (cNd q 77 [.ptr a0 0, .list false r8] sg (pan K) fun i802 t803 i804 i805 r806 sg801 => chk (!(isBaddr 11 p7 || false)) (C n q 80 [1, 1, 1, 1, 1, 1, 1, 1, 1, 1, 1] (S8 a0 b1 i2 i3 t4 i5 i6 p7 r8 i9 t10 i11 i12 r13 i802 t803 i804 i805 r806 b14 b15) sg801 (K8 q n K))) := by kernel_rfl
theorem cut8 : T n q 80 [1, 1, 1, 1, 1, 1, 1, 1, 1, 1, 1] (S8 a0 b1 i2 i3 t4 i5 i6 p7 r8 i9 t10 i11 i12 r13 i14 t15 i16 i17 r18 b19 b20) sg (K8 q n K) =
  (bcond b1 (cNd q 74 [.ptr a0 0] sg (pan K) fun i902 t903 i904 i905 r906 sg901 => C n q 80 [1, 1, 1, 1, 1, 1, 1, 1, 1, 1, 1, 1] (S9 a0 b1 i2 i3 t4 i5 i6 p7 r8 ([[PV.int .i64 i902, .str t903, .int .i64 i904, .int .i64 i905, .list false r906]]) i9 t10 i11 i12 r13 i14 t15 i16 i17 r18 b19 b20 b1) sg901 (K9 q n K)) (C n q 80 [1, 1, 1, 1, 1, 1, 1, 1, 1, 1, 1, 1] (S9 a0 b1 i2 i3 t4 i5 i6 p7 r8 [] i9 t10 i11 i12 r13 i14 t15 i16 i17 r18 b19 b20 b1) sg (K9 q n K))) := by kernel_rfl
theorem cut9 : T n q 80 [1, 1, 1, 1, 1, 1, 1, 1, 1, 1, 1, 1] (S9 a0 b1 i2 i3 t4 i5 i6 p7 r8 r9 i10 t11 i12 i13 r14 i15 t16 i17 i18 r19 b20 b21 b22) sg (K9 q n K) =
  (cNd q 77 [.ptr a0 0, .list false r9] sg (pan K) fun i1002 t1003 i1004 i1005 r1006 sg1001 => chk (!(isBaddr 12 p7 || false)) (C n q 80 [1, 1, 1, 1, 1, 1, 1, 1, 1, 1, 1, 1, 1] (S10 a0 b1 i2 i3 t4 i5 i6 p7 r8 r9 i10 t11 i12 i13 r14 i15 t16 i17 i18 r19 i1002 t1003 i1004 i1005 r1006 b20 b21 b22) sg1001 (K10 q n K))) := by kernel_rfl
theorem cut10 : T n q 80 [1, 1, 1, 1, 1, 1, 1, 1, 1, 1, 1, 1, 1] (S10 a0 b1 i2 i3 t4 i5 i6 p7 r8 r9 i10 t11 i12 i13 r14 i15 t16 i17 i18 r19 i20 t21 i22 i23 r24 b25 b26 b27) sg (K10 q n K) =
  (bcond (!b1) (cP q 61 [.ptr a0 0, .str (⟨#[59]⟩ : ByteArray)] sg (pan K) fun r1102 sg1101 => C n q 80 [1, 1, 1, 1, 1, 1, 1, 1, 1, 1, 1, 1, 1, 1] (S11 a0 b1 i2 i3 t4 i5 i6 p7 r8 r9 i10 t11 i12 i13 r14 i15 t16 i17 i18 r19 i20 t21 i22 i23 r24 b25 b26 b27 (!b1)) sg1101 (K11 q n K)) (C n q 80 [1, 1, 1, 1, 1, 1, 1, 1, 1, 1, 1, 1, 1, 1] (S11 a0 b1 i2 i3 t4 i5 i6 p7 r8 r9 i10 t11 i12 i13 r14 i15 t16 i17 i18 r19 i20 t21 i22 i23 r24 b25 b26 b27 (!b1)) sg (K11 q n K))) := by kernel_rfl
theorem cut11 : T n q 80 [1, 1, 1, 1, 1, 1, 1, 1, 1, 1, 1, 1, 1, 1] (S11 a0 b1 i2 i3 t4 i5 i6 p7 r8 r9 i10 t11 i12 i13 r14 i15 t16 i17 i18 r19 i20 t21 i22 i23 r24 b25 b26 b27 b28) sg (K11 q n K) =
  (cNd q 62 [.ptr a0 0, .int .i64 5, .str t4, .int .i64 i2, .list false ([[PV.int .i64 i10, .str t11, .int .i64 i12, .int .i64 i13, .list false r14], [.int .i64 i15, .str t16, .int .i64 i17, .int .i64 i18, .list false r19], [.int .i64 i20, .str t21, .int .i64 i22, .int .i64 i23, .list false r24]])] sg (pan K) fun i1202 t1203 i1204 i1205 r1206 sg1201 => K ⟨false, .agg [.int .i64 i1202, .str t1203, .int .i64 i1204, .int .i64 i1205, .list false r1206]⟩ sg1201) := by kernel_rfl
theorem eq (a0 : Nat) (a1 : Bool) : B n q 80 sg [.ptr a0 0, .bool a1] K =
  (cTok q 59 [.ptr a0 0, .int .i64 0] sg (pan K) fun i2 t3 i4 i5 sg1 => C n q 80 [1, 1] (S0 a0 a1 i4) sg1 (K0 q n K)) := by kernel_rfl
end syntax_parser_fun
namespace syntax_parser_unary
def S0 (a0 : Nat) (i1 : Int) (t2 : ByteArray) (i3 i4 : Int) : List PV := .ptr a0 0 :: .skip :: .box ([.int .i64 0, .str (⟨#[]⟩ : ByteArray), .int .i64 0, .int .i64 0, .list true []]) :: .box [.int .i64 i1, .str t2, .int .i64 i3, .int .i64 i4] :: .skip :: .skip :: .skip :: .skip :: .undef :: U4 (U2 (.skip :: .undef :: U8 (U4 (.skip :: U8 (U4 (.skip :: U8 (U4 [])))))))
def K0 (q : Caller) (n : Nat) (K : KT) : Cont := (fK (En n) 112 K)
def S1 (a0 : Nat) (i1 : Int) (t2 : ByteArray) (i3 i4 i5 : Int) (t6 : ByteArray) (i7 i8 : Int) (r9 : List (List PV)) (b10 : Bool) : List PV := .ptr a0 0 :: .skip :: .box ([.int .i64 0, .str (⟨#[]⟩ : ByteArray), .int .i64 0, .int .i64 0, .list true []]) :: .box [.int .i64 i1, .str t2, .int .i64 i3, .int .i64 i4] :: .box [.int .i64 i5, .str t6, .int .i64 i7, .int .i64 i8, .list false r9] :: .skip :: .skip :: .skip :: .undef :: U4 (U2 (.bool b10 :: .undef :: U8 (U4 (.skip :: U8 (U4 (.skip :: U8 (U4 [])))))))
def K1 (q : Caller) (n : Nat) (K : KT) : Cont := (sK (En n) cutsOf q 112 [1, 1, 1] (fK (En n) 112 K))
def S2 (a0 : Nat) (i1 : Int) (t2 : ByteArray) (i3 i4 : Int) (b5 : Bool) : List PV := .ptr a0 0 :: .skip :: .box ([.int .i64 0, .str (⟨#[]⟩ : ByteArray), .int .i64 0, .int .i64 0, .list true []]) :: .box [.int .i64 i1, .str t2, .int .i64 i3, .int .i64 i4] :: .skip :: .skip :: .skip :: .skip :: .undef :: U4 (U2 (.bool b5 :: .undef :: U8 (U4 (.skip :: U8 (U4 (.skip :: U8 (U4 [])))))))
def K2 (q : Caller) (n : Nat) (K : KT) : Cont := (fK (En n) 112 K)
def S3 (a0 : Nat) (i1 : Int) (t2 : ByteArray) (i3 i4 i5 : Int) (t6 : ByteArray) (i7 i8 : Int) (r9 : List (List PV)) (b10 : Bool) : List PV := .ptr a0 0 :: .skip :: .box ([.int .i64 0, .str (⟨#[]⟩ : ByteArray), .int .i64 0, .int .i64 0, .list true []]) :: .box [.int .i64 i1, .str t2, .int .i64 i3, .int .i64 i4] :: .skip :: .box [.int .i64 i5, .str t6, .int .i64 i7, .int .i64 i8, .list false r9] :: .skip :: .skip :: .undef :: U4 (U2 (.bool b10 :: .undef :: U8 (U4 (.skip :: U8 (U4 (.skip :: U8 (U4 [])))))))
def K3 (q : Caller) (n : Nat) (K : KT) : Cont := (fK (En n) 112 K)
def S4 (a0 : Nat) (i1 : Int) (t2 : ByteArray) (i3 i4 i5 : Int) (t6 : ByteArray) (i7 i8 : Int) (r9 : List (List PV)) (p10 p11 : PV) (b12 : Bool) (p13 p14 : PV) : List PV := .ptr a0 0 :: .skip :: .box ([.int .i64 0, .str (⟨#[]⟩ : ByteArray), .int .i64 0, .int .i64 0, .list true []]) :: .box [.int .i64 i1, .str t2, .int .i64 i3, .int .i64 i4] :: .skip :: .box [.int .i64 i5, .str t6, .int .i64 i7, .int .i64 i8, .list false r9] :: p10 :: p11 :: .undef :: U4 (U2 (.bool b12 :: .undef :: U8 (U4 (p13 :: U8 (U4 (p14 :: U8 (U4 [])))))))
def K4 (q : Caller) (n : Nat) (K : KT) : Cont := (blockK 0 (fK (En n) 112 K))
def S5 (a0 : Nat) (i1 : Int) (t2 : ByteArray) (i3 i4 i5 : Int) (t6 : ByteArray) (i7 i8 : Int) (r9 : List (List PV)) (i10 : Int) (t11 : ByteArray) (i12 i13 : Int) (p14 : PV) (b15 b16 : Bool) (p17 : PV) : List PV := .ptr a0 0 :: .skip :: .box ([.int .i64 0, .str (⟨#[]⟩ : ByteArray), .int .i64 0, .int .i64 0, .list true []]) :: .box [.int .i64 i1, .str t2, .int .i64 i3, .int .i64 i4] :: .skip :: .box [.int .i64 i5, .str t6, .int .i64 i7, .int .i64 i8, .list false r9] :: .box [.int .i64 i10, .str t11, .int .i64 i12, .int .i64 i13] :: p14 :: .undef :: U4 (U2 (.bool b15 :: .undef :: U8 (U4 (.bool b16 :: U8 (U4 (p17 :: U8 (U4 [])))))))
def K5 (q : Caller) (n m4 : Nat) (K : KT) : Cont := (blockK 2 (blockK 1 (lK (En n) q 112 [1, 1, 1, 1, 0, 0] (blockK 0 (fK (En n) 112 K)) m4)))
def S6 (a0 : Nat) (i1 : Int) (t2 : ByteArray) (i3 i4 i5 : Int) (t6 : ByteArray) (i7 i8 : Int) (r9 : List (List PV)) (p10 : PV) (r11 : List (List PV)) (b12 b13 b14 : Bool) : List PV := .ptr a0 0 :: .skip :: .box ([.int .i64 0, .str (⟨#[]⟩ : ByteArray), .int .i64 0, .int .i64 0, .list true []]) :: .box [.int .i64 i1, .str t2, .int .i64 i3, .int .i64 i4] :: .skip :: .box [.int .i64 i5, .str t6, .int .i64 i7, .int .i64 i8, .list false r9] :: p10 :: .list true r11 :: .undef :: U4 (U2 (.bool b12 :: .undef :: U8 (U4 (.bool b13 :: U8 (U4 (.bool b14 :: U8 (U4 [])))))))
def K6 (q : Caller) (n m4 : Nat) (K : KT) : Cont := (blockK 2 (blockK 1 (lK (En n) q 112 [1, 1, 1, 1, 0, 0] (blockK 0 (fK (En n) 112 K)) m4)))
theorem cut0 : T n q 112 [1, 1] (S0 a0 i1 t2 i3 i4) sg (K0 q n K) =
  (cB q 75 [.ptr a0 0, .str (⟨#[33]⟩ : ByteArray)] sg (pan K) fun b102 sg101 => bcond b102 (cNd q 112 [.ptr a0 0] sg101 (pan K) fun i104 t105 i106 i107 r108 sg103 => C n q 112 [1, 1, 0, 1, 0, 1] (S1 a0 i1 t2 i3 i4 i104 t105 i106 i107 r108 true) sg103 (K1 q n K)) (cB q 75 [.ptr a0 0, .str (⟨#[45]⟩ : ByteArray)] sg101 (pan K) fun b110 sg109 => bcond b110 (cNd q 112 [.ptr a0 0] sg109 (pan K) fun i112 t113 i114 i115 r116 sg111 => C n q 112 [1, 1, 0, 1, 0, 1] (S1 a0 i1 t2 i3 i4 i112 t113 i114 i115 r116 b110) sg111 (K1 q n K)) (C n q 112 [1, 1, 1] (S2 a0 i1 t2 i3 i4 b110) sg109 (K2 q n K)))) := by kernel_rfl
theorem cut1 : T n q 112 [1, 1, 0, 1, 0, 1] (S1 a0 i1 t2 i3 i4 i5 t6 i7 i8 r9 b10) sg (K1 q n K) =
  (cNd q 62 [.ptr a0 0, .int .i64 22, .str t2, .int .i64 i3, .list false ([[PV.int .i64 i5, .str t6, .int .i64 i7, .int .i64 i8, .list false r9]])] sg (pan K) fun i202 t203 i204 i205 r206 sg201 => K ⟨false, .agg [.int .i64 i202, .str t203, .int .i64 i204, .int .i64 i205, .list false r206]⟩ sg201) := by kernel_rfl
theorem cut2 : T n q 112 [1, 1, 1] (S2 a0 i1 t2 i3 i4 b5) sg (K2 q n K) =
  (cNd q 151 [.ptr a0 0] sg (pan K) fun i302 t303 i304 i305 r306 sg301 => C n q 112 [1, 1, 1, 1] (S3 a0 i1 t2 i3 i4 i302 t303 i304 i305 r306 b5) sg301 (K3 q n K)) := by kernel_rfl
theorem cut3 : T n q 112 [1, 1, 1, 1] (S3 a0 i1 t2 i3 i4 i5 t6 i7 i8 r9 b10) sg (K3 q n K) =
  (L n q 112 [1, 1, 1, 1, 0, 0] (S4 a0 i1 t2 i3 i4 i5 t6 i7 i8 r9 PV.skip PV.skip b10 PV.skip PV.skip) sg (K4 q n K) n) := by kernel_rfl
theorem loop4 : T n q 112 [1, 1, 1, 1, 0, 0] (S4 a0 i1 t2 i3 i4 i5 t6 i7 i8 r9 p10 p11 b12 p13 p14) sg (lK (En n) q 112 [1, 1, 1, 1, 0, 0] (K4 q n K) m4) =
  (cB q 75 [.ptr a0 0, .str (⟨#[46]⟩ : ByteArray)] sg (pan K) fun b502 sg501 => bcond b502 (cTok q 60 [.ptr a0 0, .int .i64 1] sg501 (pan K) fun i504 t505 i506 i507 sg503 => chk (!(isBaddr 6 p10 || (isBaddr 6 p11 || (isBaddr 6 p14 || false)))) (C n q 112 [1, 1, 1, 1, 0, 0, 0, 0, 1, 0, 1] (S5 a0 i1 t2 i3 i4 i5 t6 i7 i8 r9 i504 t505 i506 i507 p11 b12 b502 p14) sg503 (K5 q n m4 K))) (cB q 58 [.ptr a0 0, .str (⟨#[40]⟩ : ByteArray)] sg501 (pan K) fun b509 sg508 => bcond b509 ((cP q 152 [.ptr a0 0] sg508 (pan K) fun r511 sg510 => chk (((r511).strip).isL && ((rowsOk 5 (((r511).strip).rows)) && (decide ((1 + (((r511).strip).rows).length) ≤ mostL)))) (C n q 112 [1, 1, 1, 1, 0, 0, 0, 0, 1, 1, 1, 0, 1] (S6 a0 i1 t2 i3 i4 i5 t6 i7 i8 r9 p10 ([[PV.int .i64 i5, .str t6, .int .i64 i7, .int .i64 i8, .list false r9]] ++ ((r511).strip).rows) b12 b502 b509) sg510 (K6 q n m4 K))) ∧ (cP q 152 [.ptr a0 0] sg508 (pan K) fun r513 sg512 => chk (((r513).strip).isL && ((rowsOk 5 (((r513).strip).rows)) && (decide ((1 + (((r513).strip).rows).length) ≤ mostL)))) (C n q 112 [1, 1, 1, 1, 0, 0, 0, 0, 1, 1, 1, 0, 1] (S6 a0 i1 t2 i3 i4 i5 t6 i7 i8 r9 p10 ([[PV.int .i64 i5, .str t6, .int .i64 i7, .int .i64 i8, .list false r9]] ++ ((r513).strip).rows) b12 b502 b509) sg512 (K6 q n m4 K)))) (K ⟨false, .agg [.int .i64 i5, .str t6, .int .i64 i7, .int .i64 i8, .list false r9]⟩ sg508))) := by kernel_rfl
theorem cut5 : T n q 112 [1, 1, 1, 1, 0, 0, 0, 0, 1, 0, 1] (S5 a0 i1 t2 i3 i4 i5 t6 i7 i8 r9 i10 t11 i12 i13 p14 b15 b16 p17) sg (K5 q n m4 K) =
  (cNd q 62 [.ptr a0 0, .int .i64 19, .str t11, .int .i64 i7, .list false ([[PV.int .i64 i5, .str t6, .int .i64 i7, .int .i64 i8, .list false r9]])] sg (pan K) fun i602 t603 i604 i605 r606 sg601 => L n q 112 [1, 1, 1, 1, 0, 0] (S4 a0 i1 t2 i3 i4 i602 t603 i604 i605 r606 (PV.box [.int .i64 i10, .str t11, .int .i64 i12, .int .i64 i13]) p14 b15 (PV.bool b16) p17) sg601 (K4 q n K) m4) := by kernel_rfl
theorem cut6 : T n q 112 [1, 1, 1, 1, 0, 0, 0, 0, 1, 1, 1, 0, 1] (S6 a0 i1 t2 i3 i4 i5 t6 i7 i8 r9 p10 r11 b12 b13 b14) sg (K6 q n m4 K) =
  (cNd q 62 [.ptr a0 0, .int .i64 20, .str (⟨#[]⟩ : ByteArray), .int .i64 i7, .list false r11] sg (pan K) fun i702 t703 i704 i705 r706 sg701 => L n q 112 [1, 1, 1, 1, 0, 0] (S4 a0 i1 t2 i3 i4 i702 t703 i704 i705 r706 p10 (PV.list true r11) b12 (PV.bool b13) (PV.bool b14)) sg701 (K4 q n K) m4) := by kernel_rfl
theorem eq (a0 : Nat) : B n q 112 sg [.ptr a0 0] K =
  (cTok q 59 [.ptr a0 0, .int .i64 0] sg (pan K) fun i2 t3 i4 i5 sg1 => C n q 112 [1, 1] (S0 a0 i2 t3 i4 i5) sg1 (K0 q n K)) := by kernel_rfl
end syntax_parser_unary
namespace syntax_parser_row
def S0 (a0 a1 : Nat) (c2 c3 : List PV) (r4 : List (List PV)) (p5 p6 : PV) : List PV := .ptr a0 0 :: .fn a1 c2 c3 :: .skip :: .skip :: .list true [] :: .list true r4 :: .undef :: .undef :: .undef :: p5 :: U8 (U4 [p6, .undef])
def K0 (q : Caller) (n : Nat) (K : KT) : Cont := (blockK 0 (fK (En n) 116 K))
def S1 (a0 a1 : Nat) (c2 c3 : List PV) (r4 : List (List PV)) (b5 : Bool) (p6 : PV) : List PV := .ptr a0 0 :: .fn a1 c2 c3 :: .skip :: .skip :: .list true [] :: .list true r4 :: .undef :: .undef :: .undef :: .bool b5 :: U8 (U4 [p6, .undef])
def K1 (q : Caller) (n m0 : Nat) (K : KT) : Cont := (blockK 1 (lK (En n) q 116 [1, 1, 0, 0] (blockK 0 (fK (En n) 116 K)) m0))
theorem loop0 : T n q 116 [1, 1, 0, 0] (S0 a0 a1 c2 c3 r4 p5 p6) sg (lK (En n) q 116 [1, 1, 0, 0] (K0 q n K) m0) =
  (cTok q 59 [.ptr a0 0, .int .i64 0] sg (pan K) fun i102 t103 i104 i105 sg101 => bcond (i102 == 7) (cNd q 158 [.ptr a0 0, .int .i64 7, .int .i64 26] sg101 (pan K) fun i107 t108 i109 i110 r111 sg106 => chk ((rowsOk 5 r4) && (decide ((r4.length + 1) ≤ mostL))) (C n q 116 [1, 1, 0, 0, 0, 1] (S1 a0 a1 c2 c3 (r4 ++ [[PV.int .i64 i107, .str t108, .int .i64 i109, .int .i64 i110, .list false r111]]) (i102 == 7) p6) sg106 (K1 q n m0 K))) (callF Go.Proofs.Tryz.prog q a1 (c2 ++ [] ++ c3) sg101 (fun u114 sg115 => K ⟨true, u114⟩ sg115) (fun r112 sg113 => chk (((r112).strip).isAgg && (((((r112).strip).aggC).length == 5) && ((((r112).strip).aggC).all isCell))) (chk (decide (0 + (((r112).strip).aggC).length ≤ 5)) (chk ((splice ([.int .i64 0, .str (⟨#[]⟩ : ByteArray), .int .i64 0, .int .i64 0, .list true []]) 0 (((r112).strip).aggC)).all isCell) (chk ((rowsOk 5 r4) && ((rowsOk 5 ([((((splice ([.int .i64 0, .str (⟨#[]⟩ : ByteArray), .int .i64 0, .int .i64 0, .list true []]) 0 (((r112).strip).aggC)).drop 0).take 5).map cstrip)])) && (decide ((r4.length + ([((((splice ([.int .i64 0, .str (⟨#[]⟩ : ByteArray), .int .i64 0, .int .i64 0, .list true []]) 0 (((r112).strip).aggC)).drop 0).take 5).map cstrip)]).length) ≤ mostL)))) (C n q 116 [1, 1, 0, 0, 0, 1] (S1 a0 a1 c2 c3 (r4 ++ [((((splice ([.int .i64 0, .str (⟨#[]⟩ : ByteArray), .int .i64 0, .int .i64 0, .list true []]) 0 (((r112).strip).aggC)).drop 0).take 5).map cstrip)]) (i102 == 7) p6) sg113 (K1 q n m0 K)))))))) := by kernel_rfl
theorem cut1 : T n q 116 [1, 1, 0, 0, 0, 1] (S1 a0 a1 c2 c3 r4 b5 p6) sg (K1 q n m0 K) =
  (cB q 75 [.ptr a0 0, .str (⟨#[44]⟩ : ByteArray)] sg (pan K) fun b202 sg201 => bcond (!b202) (K ⟨false, .list false r4⟩ sg201) (L n q 116 [1, 1, 0, 0] (S0 a0 a1 c2 c3 r4 (PV.bool b5) (PV.bool (!b202))) sg201 (K0 q n K) m0)) := by kernel_rfl
theorem eq (a0 a1 : Nat) (a1a a1b : List PV) : B n q 116 sg [.ptr a0 0, .fn a1 a1a a1b] K =
  (L n q 116 [1, 1, 0, 0] (S0 a0 a1 a1a a1b [] PV.skip PV.skip) sg (K0 q n K) n) := by kernel_rfl
end syntax_parser_row
namespace syntax_parser_class_1
theorem eq (c0 : List PV) : B n q 118 sg [.eaddr c0 0] K =
  (chk (decide (1 ≤ c0.length)) (cB q 58 [(((c0.getD 0 .undef)).cstrip).strip, .str (⟨#[118, 97, 114]⟩ : ByteArray)] sg (pan K) fun b2 sg1 => bcond b2 (chk (decide (1 ≤ c0.length)) (cNd q 73 [(((c0.getD 0 .undef)).cstrip).strip] sg1 (pan K) fun i4 t5 i6 i7 r8 sg3 => K ⟨false, .agg [.int .i64 i4, .str t5, .int .i64 i6, .int .i64 i7, .list false r8]⟩ sg3)) (chk (decide (1 ≤ c0.length)) (cNd q 80 [(((c0.getD 0 .undef)).cstrip).strip, .bool true] sg1 (pan K) fun i10 t11 i12 i13 r14 sg9 => K ⟨false, .agg [.int .i64 i10, .str t11, .int .i64 i12, .int .i64 i13, .list false r14]⟩ sg9)))) := by kernel_rfl
end syntax_parser_class_1
namespace syntax_parser_param
def S0 (a0 : Nat) (i1 : Int) (t2 : ByteArray) (i3 i4 : Int) : List PV := .ptr a0 0 :: .skip :: .box ([.int .i64 0, .str (⟨#[]⟩ : ByteArray), .int .i64 0, .int .i64 0, .list true []]) :: .box [.int .i64 i1, .str t2, .int .i64 i3, .int .i64 i4] :: .skip :: U8 (U4 (U2 []))
def K0 (q : Caller) (n : Nat) (K : KT) : Cont := (fK (En n) 120 K)
def S1 (a0 : Nat) (i1 : Int) (t2 : ByteArray) (i3 i4 : Int) : List PV := .ptr a0 0 :: .skip :: .box ([.int .i64 0, .str (⟨#[]⟩ : ByteArray), .int .i64 0, .int .i64 0, .list true []]) :: .box [.int .i64 i1, .str t2, .int .i64 i3, .int .i64 i4] :: .skip :: U8 (U4 (U2 []))
def K1 (q : Caller) (n : Nat) (K : KT) : Cont := (fK (En n) 120 K)
def S2 (a0 : Nat) (i1 : Int) (t2 : ByteArray) (i3 i4 i5 : Int) (t6 : ByteArray) (i7 i8 : Int) (r9 : List (List PV)) : List PV := .ptr a0 0 :: .skip :: .box ([.int .i64 0, .str (⟨#[]⟩ : ByteArray), .int .i64 0, .int .i64 0, .list true []]) :: .box [.int .i64 i1, .str t2, .int .i64 i3, .int .i64 i4] :: .box [.int .i64 i5, .str t6, .int .i64 i7, .int .i64 i8, .list false r9] :: U8 (U4 (U2 []))
def K2 (q : Caller) (n : Nat) (K : KT) : Cont := (fK (En n) 120 K)
theorem cut0 : T n q 120 [1, 1] (S0 a0 i1 t2 i3 i4) sg (K0 q n K) =
  (cP q 61 [.ptr a0 0, .str (⟨#[58]⟩ : ByteArray)] sg (pan K) fun r102 sg101 => C n q 120 [1, 1, 1] (S1 a0 i1 t2 i3 i4) sg101 (K1 q n K)) := by kernel_rfl
theorem cut1 : T n q 120 [1, 1, 1] (S1 a0 i1 t2 i3 i4) sg (K1 q n K) =
  (cNd q 115 [.ptr a0 0] sg (pan K) fun i202 t203 i204 i205 r206 sg201 => C n q 120 [1, 1, 1, 1] (S2 a0 i1 t2 i3 i4 i202 t203 i204 i205 r206) sg201 (K2 q n K)) := by kernel_rfl
theorem cut2 : T n q 120 [1, 1, 1, 1] (S2 a0 i1 t2 i3 i4 i5 t6 i7 i8 r9) sg (K2 q n K) =
  (cNd q 62 [.ptr a0 0, .int .i64 7, .str t2, .int .i64 i3, .list false ([[PV.int .i64 i5, .str t6, .int .i64 i7, .int .i64 i8, .list false r9]])] sg (pan K) fun i302 t303 i304 i305 r306 sg301 => K ⟨false, .agg [.int .i64 i302, .str t303, .int .i64 i304, .int .i64 i305, .list false r306]⟩ sg301) := by kernel_rfl
theorem eq (a0 : Nat) : B n q 120 sg [.ptr a0 0] K =
  (cTok q 60 [.ptr a0 0, .int .i64 1] sg (pan K) fun i2 t3 i4 i5 sg1 => C n q 120 [1, 1] (S0 a0 i2 t3 i4 i5) sg1 (K0 q n K)) := by kernel_rfl
end syntax_parser_param
namespace syntax_parser_args
def S0 (a0 : Nat) : List PV := .ptr a0 0 :: .skip :: .list true [] :: .skip :: U4 (.skip :: .undef :: U4 (U2 []))
def K0 (q : Caller) (n : Nat) (K : KT) : Cont := (fK (En n) 152 K)
theorem cut0 : T n q 152 [1, 1] (S0 a0) sg (K0 q n K) =
  (cB q 58 [.ptr a0 0, .str (⟨#[41]⟩ : ByteArray)] sg (pan K) fun b102 sg101 => bcond (!b102) (cP q 116 [.ptr a0 0, .fn 39 [.ptr a0 0] []] sg101 (pan K) fun r104 sg103 => cP q 61 [.ptr a0 0, .str (⟨#[41]⟩ : ByteArray)] sg103 (pan K) fun r106 sg105 => K ⟨false, (mval (mval (((mval r104)).strip)))⟩ sg105) (cP q 61 [.ptr a0 0, .str (⟨#[41]⟩ : ByteArray)] sg101 (pan K) fun r108 sg107 => K ⟨false, .list false []⟩ sg107)) := by kernel_rfl
theorem eq (a0 : Nat) : B n q 152 sg [.ptr a0 0] K =
  (cP q 61 [.ptr a0 0, .str (⟨#[40]⟩ : ByteArray)] sg (pan K) fun r2 sg1 => C n q 152 [1, 1] (S0 a0) sg1 (K0 q n K)) := by kernel_rfl
end syntax_parser_args
namespace syntax_parser_name
def S0 (a0 : Nat) (i1 : Int) (t2 : ByteArray) (i3 i4 : Int) : List PV := .ptr a0 0 :: .skip :: .box ([.int .i64 0, .str (⟨#[]⟩ : ByteArray), .int .i64 0, .int .i64 0, .list true []]) :: .box [.int .i64 i1, .str t2, .int .i64 i3, .int .i64 i4] :: .skip :: .undef :: U4 (.skip :: .undef :: U8 (U2 []))
def K0 (q : Caller) (n : Nat) (K : KT) : Cont := (fK (En n) 159 K)
def S1 (a0 : Nat) (i1 : Int) (t2 : ByteArray) (i3 i4 : Int) (t5 : ByteArray) (b6 : Bool) : List PV := .ptr a0 0 :: .skip :: .box ([.int .i64 0, .str (⟨#[]⟩ : ByteArray), .int .i64 0, .int .i64 0, .list true []]) :: .box [.int .i64 i1, .str t2, .int .i64 i3, .int .i64 i4] :: .str t5 :: .undef :: U4 (.bool b6 :: .undef :: U8 (U2 []))
def K1 (q : Caller) (n : Nat) (K : KT) : Cont := (fK (En n) 159 K)
theorem cut0 : T n q 159 [1, 1] (S0 a0 i1 t2 i3 i4) sg (K0 q n K) =
  (cB q 75 [.ptr a0 0, .str (⟨#[46]⟩ : ByteArray)] sg (pan K) fun b102 sg101 => bcond b102 (cTok q 60 [.ptr a0 0, .int .i64 1] sg101 (pan K) fun i104 t105 i106 i107 sg103 => chk (sumOk (⟨#[46]⟩ : ByteArray) t105) (chk (sumOk t2 (cat (⟨#[46]⟩ : ByteArray) t105)) (C n q 159 [1, 1, 1, 1] (S1 a0 i1 t2 i3 i4 (cat t2 (cat (⟨#[46]⟩ : ByteArray) t105)) b102) sg103 (K1 q n K)))) (C n q 159 [1, 1, 1, 1] (S1 a0 i1 t2 i3 i4 t2 b102) sg101 (K1 q n K))) := by kernel_rfl
theorem cut1 : T n q 159 [1, 1, 1, 1] (S1 a0 i1 t2 i3 i4 t5 b6) sg (K1 q n K) =
  (cNd q 62 [.ptr a0 0, .int .i64 8, .str t5, .int .i64 i3, .list false []] sg (pan K) fun i202 t203 i204 i205 r206 sg201 => K ⟨false, .agg [.int .i64 i202, .str t203, .int .i64 i204, .int .i64 i205, .list false r206]⟩ sg201) := by kernel_rfl
theorem eq (a0 : Nat) : B n q 159 sg [.ptr a0 0] K =
  (cTok q 60 [.ptr a0 0, .int .i64 1] sg (pan K) fun i2 t3 i4 i5 sg1 => C n q 159 [1, 1] (S0 a0 i2 t3 i4 i5) sg1 (K0 q n K)) := by kernel_rfl
end syntax_parser_name
end
end Go.Ev
