/- An evaluator of translated code on plain values, and that its operations are sound (first part). -/
import Derived.OrdersHeld
import Derived.Laws.CopyRow
import Derived.Scope
import Derived.Laws.Small
set_option linter.unusedVariables false
namespace Go.Ev
/-- Values without memory. A slice is its rows of cells; 'own': its spare room is the holder's. A box is memory of the frame's own, ptr an object that outlives frames. -/
inductive PV where
  | int (k : IntKind) (n : Int)
  | bool (b : Bool)
  | str (s : ByteArray)
  | list (own : Bool) (rows : List (List PV))
  | agg (cells : List PV)
  | tup (vs : List PV)
  | box (cells : List PV)
  | baddr (s off : Nat)
  | eaddr (cells : List PV) (off : Nat)
  | ptr (i off : Nat)
  | nilp
  | fn (f : FuncId) (first caps : List PV)
  | iface (t : TypeId) (v : PV)
  | skip
  | undef
  deriving Inhabited
def bcond {α : Sort _} (b : Bool) (x y : α) : α := match b with
  | true => x
  | false => y
def chk (b : Bool) (x : Prop) : Prop := bcond b x False
namespace PV
def cstrip : PV → PV
  | .list _ r => .list false r
  | .box _ => .undef
  | .baddr _ _ => .undef
  | v => v
def strip : PV → PV
  | .list _ r => .list false r
  | .agg cs => .agg (cs.map cstrip)
  | .box _ => .undef
  | .baddr _ _ => .undef
  | v => v
def isI (k : IntKind) : PV → Bool
  | .int k' _ => decide (k' = k)
  | _ => false
def toI : PV → Int
  | .int _ n => n
  | _ => 0
def isB : PV → Bool
  | .bool _ => true
  | _ => false
def toB : PV → Bool
  | .bool b => b
  | _ => false
def isS : PV → Bool
  | .str _ => true
  | _ => false
def toS : PV → ByteArray
  | .str s => s
  | _ => ⟨#[]⟩
def isL : PV → Bool
  | .list _ _ => true
  | _ => false
def rows : PV → List (List PV)
  | .list _ r => r
  | _ => []
def isAgg : PV → Bool
  | .agg _ => true
  | _ => false
def aggC : PV → List PV
  | .agg cs => cs
  | _ => []
/-- A value of one cell. -/
def isCell : PV → Bool
  | .int .. => true
  | .bool _ => true
  | .str _ => true
  | .list .. => true
  | .ptr .. => true
  | .eaddr .. => true
  | .nilp => true
  | .fn .. => true
  | .iface .. => true
  | _ => false
end PV
open PV
def rowsOk (k : Nat) (r : List (List PV)) : Bool := r.all fun x => x.length == k
def absC : Value → PV
  | .int k n => .int k n
  | .bool b => .bool b
  | .string s => .str s
  | .slice none 0 0 => .list true []
  | .pointer none => .nilp
  | _ => .undef
def absV : Value → PV
  | .agg cs => .agg (cs.toList.map absC)
  | .tuple _ => .undef
  | v => absC v
def raw (sl : List PV) : Operand → PV
  | .tmp t => sl.getD t .undef
  | .const v => absV v
  | .func f => .fn f [] []
  | .global _ => .undef
def val (sl : List PV) (x : Operand) : PV := (raw sl x).strip
def setD (sl : List PV) (d : Option Tmp) (v : PV) : List PV :=
  match d with
  | some d => sl.set d v
  | none => sl
section types
variable (P : Program)
def szT (t : TypeId) : Option Nat := match P.info? t with
  | some i => some i.size
  | none => none
def aggT (t : TypeId) : Option Bool := match P.underlying t with
  | some (.struct _) => some true
  | some (.array _ _) => some true
  | some _ => some false
  | none => none
def zeroT (t : TypeId) : Option (List PV) := match P.info? t with
  | some i => match i.zero with
    | some v => some (v.cells.toList.map absC)
    | none => none
  | none => none
def elemT (t : TypeId) : Option TypeId := match P.underlying t with
  | some (.slice e) => some e
  | _ => none
def fieldT (t : TypeId) (k : Nat) : Option (Nat × TypeId) := match P.underlying t with
  | some (.struct fs) => match fs[k]? with
    | some f => some (f.offset, f.type)
    | none => none
  | _ => none
/-- The cells of a value that is stored as type t, and whether they are as many as they must be. -/
def cellsAs (t : TypeId) (v : PV) (K : List PV → Prop) : Prop := match szT P t, aggT P t with
  | some n, some true => chk (v.isAgg && (v.aggC.length == n && v.aggC.all isCell)) (K v.aggC)
  | some n, some false => chk (v.isCell && n == 1) (K [v])
  | _, _ => False
end types
/-- The cells at an address, and where in them it points. -/
def place (sl : List PV) (sg : List (List PV)) : PV → Option (List PV × Nat)
  | .eaddr cs off => some (cs, off)
  | .baddr s off => match sl.getD s .undef with
    | .box cs => some (cs, off)
    | _ => none
  | .box cs => some (cs, 0)
  | .ptr i off => match sg[i]? with
    | some cs => some (cs, off)
    | none => none
  | _ => none
def splice (cs : List PV) (off : Nat) (vs : List PV) : List PV := cs.take off ++ vs ++ cs.drop (off + vs.length)
/-- An object is read. -/
def objGet (sg : List (List PV)) (i : Nat) (K : List PV → Prop) : Prop := match sg[i]? with
  | some cs => K cs
  | none => False
/-- An object is written. -/
def objSet (sg : List (List PV)) (i off : Nat) (vs : List PV) (K : List (List PV) → Prop) : Prop := match sg[i]? with
  | some cs => chk (decide (off + vs.length ≤ cs.length)) (K (sg.set i (splice cs off vs)))
  | none => False
/-- Two strings together, as a word that the kernel does not open. -/
theorem cat_ex : ∃ g : ByteArray → ByteArray → ByteArray, g = fun x y => x ++ y := ⟨_, rfl⟩
noncomputable def cat : ByteArray → ByteArray → ByteArray := cat_ex.choose
theorem cat_eq (x y : ByteArray) : cat x y = x ++ y := congrFun (congrFun cat_ex.choose_spec x) y
/-- The two strings together are no longer than a string may be. -/
theorem sumOk_ex : ∃ g : ByteArray → ByteArray → Bool, g = fun x y => decide (((x.size + y.size : Nat) : Int) ≤ IntKind.i64.max) := ⟨_, rfl⟩
noncomputable def sumOk : ByteArray → ByteArray → Bool := sumOk_ex.choose
theorem sumOk_eq (x y : ByteArray) : sumOk x y = decide (((x.size + y.size : Nat) : Int) ≤ IntKind.i64.max) := congrFun (congrFun sumOk_ex.choose_spec x) y
noncomputable section cps
variable (P : Program)
def intBin (op : BinOp) (k : IntKind) (a b : Int) (K : PV → Prop) : Prop := match op with
  | .add => K (.int k (k.wrap (a + b)))
  | .sub => K (.int k (k.wrap (a - b)))
  | .mul => K (.int k (k.wrap (a * b)))
  | .quo => chk (!(b == 0)) (K (.int k (k.wrap (a.tdiv b))))
  | .rem => chk (!(b == 0)) (K (.int k (a.tmod b)))
  | .eql => K (.bool (a == b))
  | .neq => K (.bool (a != b))
  | .lss => K (.bool (decide (a < b)))
  | .leq => K (.bool (decide (a ≤ b)))
  | .gtr => K (.bool (decide (a > b)))
  | .geq => K (.bool (decide (a ≥ b)))
  | _ => False
def strBin (op : BinOp) (x y : ByteArray) (K : PV → Prop) : Prop := match op with
  | .add => chk (sumOk x y) (K (.str (cat x y)))
  | .eql => K (.bool (x.toList == y.toList))
  | .neq => K (.bool (!(x.toList == y.toList)))
  | .lss => K (.bool (Op.bytesLess x.toList y.toList))
  | .leq => K (.bool (Op.bytesLess x.toList y.toList || x.toList == y.toList))
  | .gtr => K (.bool (!(Op.bytesLess x.toList y.toList || x.toList == y.toList)))
  | .geq => K (.bool (!Op.bytesLess x.toList y.toList))
  | _ => False
def binV (op : BinOp) (t : TypeId) (x y : PV) (K : PV → Prop) : Prop := match P.underlying t with
  | some (.int k) => chk (x.isI k && y.isI k) (intBin op k x.toI y.toI K)
  | some .string => chk (x.isS && y.isS) (strBin op x.toS y.toS K)
  | some .bool => match op with
    | .eql => chk (x.isB && y.isB) (K (.bool (x.toB == y.toB)))
    | .neq => chk (x.isB && y.isB) (K (.bool (!(x.toB == y.toB))))
    | _ => False
  | _ => False
def unV (op : UnOp) (t : TypeId) (x : PV) (K : PV → Prop) : Prop := match op, P.underlying t with
  | .neg, some (.int k) => chk (x.isI k) (K (.int k (k.wrap (0 - x.toI))))
  | .not, some .bool => chk x.isB (K (.bool (!x.toB)))
  | _, _ => False
/-- c chooses between two values of type t. -/
def pickV (t : TypeId) (c a b : PV) (K : PV → Prop) : Prop := match P.underlying t with
  | some .bool => chk (c.isB && (bcond c.toB a.isB b.isB)) (K (.bool (bcond c.toB a.toB b.toB)))
  | _ => chk c.isB (K (bcond c.toB a b))
def byteAt (s : ByteArray) (i : Int) : Int := ((s.data.getD i.toNat 0).toNat : Int)
def rowAt (r : List (List PV)) (i : Int) : List PV := r.getD i.toNat []
def optI (sl : List PV) (d : Int) : Option Operand → Int
  | some x => (val sl x).toI
  | none => d
def optOk (sl : List PV) : Option Operand → Bool
  | some x => (val sl x).isI .i64
  | none => true
def sliceV (t : TypeId) (x : PV) (lo hi : Int) (K : PV → Prop) : Prop := match P.underlying t with
  | some .string => chk (x.isS && (decide (0 ≤ lo) && (decide (lo ≤ hi) && decide (hi ≤ x.toS.size)))) (K (.str (x.toS.extract lo.toNat hi.toNat)))
  | some (.slice e) => match szT P e with
    | some k => chk (x.isL && (rowsOk k x.rows && (decide (0 ≤ lo) && (decide (lo ≤ hi) && decide (hi ≤ x.rows.length))))) (K (.list false ((x.rows.drop lo.toNat).take (hi.toNat - lo.toNat))))
    | none => False
  | _ => False
/-- The length that stands where a slice has no upper bound. -/
def topV (t : TypeId) (x : PV) : Int := match P.underlying t with
  | some .string => x.toS.size
  | _ => x.rows.length
def lenV (t : TypeId) (x : PV) (K : PV → Prop) : Prop := match P.underlying t with
  | some .string => chk x.isS (K (.int .i64 x.toS.size))
  | some (.slice e) => chk x.isL (K (.int .i64 x.rows.length))
  | _ => False
/-- A cell of type t, told by its kind. -/
def tyC (t : TypeId) (v : PV) (K : PV → Prop) : Prop := match P.underlying t with
  | some .bool => chk v.isB (K (.bool v.toB))
  | some (.int k) => chk (v.isI k) (K (.int k v.toI))
  | some .string => chk v.isS (K (.str v.toS))
  | some (.slice _) => chk v.isL (K (.list false v.rows))
  | _ => K v
/-- The types of the cells of a type. -/
def leaves : Nat → TypeId → List TypeId
  | 0, t => [t]
  | n + 1, t => match P.underlying t with
    | some (.struct fs) => (fs.toList.map fun f => leaves n f.type).flatten
    | _ => [t]
def tyCells : List TypeId → Nat → List PV → (List PV → Prop) → Prop
  | [], _, _, K => K []
  | t :: ts, i, cs, K => tyC P t (cs.getD i .undef) fun c => tyCells ts (i + 1) cs fun r => K (c :: r)
/-- A value of type t, told by its kind. -/
def tyV (t : TypeId) (v : PV) (K : PV → Prop) : Prop := match aggT P t with
  | some true => chk (v.isAgg && v.aggC.length == (leaves P 8 t).length) (tyCells P (leaves P 8 t) 0 v.aggC fun cs => K (.agg cs))
  | _ => tyC P t v K
def loadAt (t : TypeId) (cs : List PV) (off : Nat) (K : PV → Prop) : Prop := match szT P t, aggT P t with
  | some z, some true => chk (decide (off + z ≤ cs.length)) (tyV P t (.agg (((cs.drop off).take z).map cstrip)) K)
  | some 1, some false => chk (decide (off + 1 ≤ cs.length)) (tyC P t (cs.getD off .undef).cstrip K)
  | _, _ => False
def loadV (sl : List PV) (sg : List (List PV)) (t : TypeId) (a : PV) (K : PV → Prop) : Prop := match a with
  | .ptr i off => objGet sg i fun cs => loadAt P t cs off K
  | a => match place sl sg a with
    | some (cs, off) => loadAt P t cs off K
    | none => False
theorem loadV_eq (sl : List PV) (sg : List (List PV)) (t : TypeId) (a : PV) (K : PV → Prop) : loadV P sl sg t a K = match place sl sg a, szT P t, aggT P t with
    | some (cs, off), some z, some true => chk (decide (off + z ≤ cs.length)) (tyV P t (.agg (((cs.drop off).take z).map cstrip)) K)
    | some (cs, off), some 1, some false => chk (decide (off + 1 ≤ cs.length)) (tyC P t (cs.getD off .undef).cstrip K)
    | _, _, _ => False := by
  have h : loadV P sl sg t a K = match place sl sg a with
      | some (cs, off) => loadAt P t cs off K
      | none => False := by
    unfold loadV
    cases a <;> try rfl
    rename_i i off
    simp only [place, objGet]
    cases sg[i]? <;> rfl
  rw [h]
  cases place sl sg a with
  | none => simp
  | some r =>
    obtain ⟨cs, off⟩ := r
    simp only [loadAt]
    rcases szT P t with _ | z <;> rcases aggT P t with _ | b <;> try rfl
    rcases z with _ | _ | z <;> cases b <;> rfl
def fillV (pl : Nat → Option (Nat × TypeId)) (sl : List PV) (K : List PV → Prop) : List PV → List (Nat × Operand) → Prop
  | cs, [] => K cs
  | cs, (i, x) :: r => match pl i with
    | none => False
    | some (off, t) => cellsAs P t (val sl x) fun vs => chk (decide (off + vs.length ≤ cs.length)) (fillV pl sl K (splice cs off vs) r)
def addrV (sl : List PV) (s : Option Nat) (off : Nat) (K : PV → Prop) : PV → Prop
  | .box _ => match s with
    | some s => K (.baddr s off)
    | none => False
  | .baddr s o => match sl.getD s .undef with
    | .box _ => K (.baddr s (o + off))
    | _ => False
  | .eaddr cs o => K (.eaddr cs (o + off))
  | .ptr i o => K (.ptr i (o + off))
  | _ => False
def slotOf : Operand → Option Nat
  | .tmp t => some t
  | _ => none
def exV (v : PV) (i : Nat) (K : PV → Prop) : Prop := match v with
  | .tup vs => chk (decide (i < vs.length)) (K (vs.getD i .undef))
  | _ => False
def isFnOrPtr : PV → Bool
  | .ptr .. => true
  | .eaddr .. => true
  | .fn .. => true
  | _ => false
/-- Operations that give a value, and turn nothing else. t0: the value's type. -/
def pureW (sl : List PV) (sg : List (List PV)) (t0 : TypeId) (op : Op) (K : PV → Prop) : Prop := match op with
  | .move x => K (val sl x)
  | .pick c a b => pickV P t0 (val sl c) (val sl a) (val sl b) K
  | .load t a => loadV P sl sg t (raw sl a) K
  | .nilCheck x => chk (isFnOrPtr (raw sl x)) (K (raw sl x))
  | .binOp op t x y _ => binV P op t (val sl x) (val sl y) K
  | .unOp op t x => unV P op t (val sl x) K
  | .convert t u x => match P.underlying t, P.underlying u with
    | some (.int k), some (.int k') => chk ((val sl x).isI k) (K (.int k' (k'.wrap (val sl x).toI)))
    | some .string, some .string => chk (val sl x).isS (K (val sl x))
    | _, _ => False
  | .slice t x lo hi none => chk (optOk sl lo && optOk sl hi) (sliceV P t (val sl x) (optI sl 0 lo) (optI sl (topV P t (val sl x)) hi) K)
  | .fieldAddr t x k => match fieldT P t k with
    | some (off, ft) => match szT P ft with
      | some (_ + 1) => addrV sl (slotOf x) off K (raw sl x)
      | _ => False
    | none => False
  | .field t x k => match fieldT P t k with
    | some (off, ft) => match szT P ft, aggT P ft with
      | some z, some true => chk ((val sl x).isAgg && decide (off + z ≤ (val sl x).aggC.length)) (K (.agg (((val sl x).aggC.drop off).take z)))
      | some 1, some false => chk ((val sl x).isAgg && decide (off + 1 ≤ (val sl x).aggC.length)) (K ((val sl x).aggC.getD off .undef))
      | _, _ => False
    | none => False
  | .indexAddr t x i => match elemT P t with
    | some e => match szT P e with
      | some k => chk ((val sl x).isL && (rowsOk k (val sl x).rows && ((val sl i).isI .i64 && (decide (0 ≤ (val sl i).toI) && decide ((val sl i).toI < (val sl x).rows.length)))))
          (K (.eaddr (rowAt (val sl x).rows (val sl i).toI) 0))
      | none => False
    | none => False
  | .index t x i => match P.underlying t with
    | some .string => chk ((val sl x).isS && ((val sl i).isI .i64 && (decide (0 ≤ (val sl i).toI) && decide ((val sl i).toI < (val sl x).toS.size)))) (K (.int .u8 (byteAt (val sl x).toS (val sl i).toI)))
    | _ => False
  | .build t ps => match zeroT P t, P.underlying t with
    | some z, some (.struct fs) => chk (fs.toList.all fun f => (szT P f.type).isSome) (fillV P (fieldT P t) sl (fun cs => K (.agg cs)) z ps.toList)
    | _, _ => False
  | .makeFunc (.func f) first caps => K (.fn f (first.toList.map (val sl)) (caps.toList.map (val sl)))
  | .makeInterface t x => match P.underlying t with
    | some (.interface _) => False
    | some _ => K (.iface t (val sl x))
    | none => False
  | .extract x i => exV (val sl x) i fun v => tyV P t0 v K
  | .call { callee := .builtin .len, args, argTypes } => match argTypes[0]?, args[0]? with
    | some t, some x => lenV P t (val sl x) K
    | _, _ => False
  | .call { callee := .builtin .max, args, argTypes } => match args.toList with
    | [x, y] => chk ((val sl x).isI .i64 && (val sl y).isI .i64) (K (.int .i64 (bcond (decide ((val sl y).toI > (val sl x).toI)) (val sl y).toI (val sl x).toI)))
    | _ => False
  | .call { callee := .builtin .min, args, argTypes } => match args.toList with
    | [x, y] => chk ((val sl x).isI .i64 && (val sl y).isI .i64) (K (.int .i64 (bcond (decide ((val sl y).toI < (val sl x).toI)) (val sl y).toI (val sl x).toI)))
    | _ => False
  | _ => False
end cps
noncomputable section
/-- How a call ends. -/
structure Res where
  pan : Bool
  v : PV
abbrev Caller := FuncId → List PV → List (List PV) → (Res → List (List PV) → Prop) → Prop
structure St where
  sl : List PV
  sg : List (List PV)
/-- How a function ends, or a part of its code. -/
inductive Ex where
  | normal
  | exit (id : Nat)
  | ret
  | pan (v : PV)
/-- An order of a region's operations; a fork where two may come that act. -/
inductive OT where
  | done
  | step (i f : Nat) (r : OT)
  | fork (i : Nat) (a : OT) (j : Nat) (b : OT)
/-- What is told of a function (Hint): the slots whose memory outlives the frame, those whose memory is never written again, the slots that take the room of what they are read from, what may be forgotten behind a region. -/
structure Hint where
  esc : List Nat := []
  im : List Nat := []
  tk : List Nat := []
  clr : List Nat := []
  ords : List (Nat × OT × List (Nat × List Nat)) := []
/-- The most elements of a slice. -/
def mostL : Nat := 1000000000
/-- The most cells of a slice written out, the most bytes of an element. -/
def mostC : Nat := 16777216
def mostB : Nat := 100000
def unown : PV → PV
  | .list _ rows => .list false rows
  | v => v
/-- A slot to strip of its room when its value moves on. -/
def moved (sl : List PV) : Operand → List PV
  | .tmp r => sl.set r (unown (sl.getD r .undef))
  | _ => sl
/-- A slice with its room. -/
def ownV (v : PV) (K : List (List PV) → Prop) : Prop := match v with
  | .list true rows => K rows
  | _ => False
/-- A guard. -/
def boolV (v : PV) (t f s : Prop) : Prop := match v with
  | .bool b => bcond b t f
  | .skip => s
  | _ => False
/-- A value that may move with its room: a slice; else without. -/
def mval (v : PV) : PV := match v with
  | .list o r => .list o r
  | v => v.strip
/-- A value for new memory: no room but that of an empty slice. -/
def bval (v : PV) : PV := match v with
  | .agg cs => .agg cs
  | .list true [] => .list true []
  | v => v.strip
/-- A value to store: a slice with its room, a struct with its empty slices. -/
def mval' (v : PV) : PV := match v with
  | .list o r => .list o r
  | .agg cs => .agg cs
  | v => v.strip
def setW (st : St) (a : PV) (aop : Operand) (vs : List PV) (K : St → Prop) : Prop := match a with
  | .box cs => match aop with
    | .tmp s => chk (decide (vs.length ≤ cs.length)) (K ⟨st.sl.set s (.box (splice cs 0 vs)), st.sg⟩)
    | _ => False
  | .baddr s off => match st.sl.getD s .undef with
    | .box cs => chk (decide (off + vs.length ≤ cs.length)) (K ⟨st.sl.set s (.box (splice cs off vs)), st.sg⟩)
    | _ => False
  | .ptr i off => objSet st.sg i off vs fun sg => K ⟨st.sl, sg⟩
  | _ => False
def isBaddr (d : Nat) : PV → Bool
  | .baddr s _ => s == d
  | _ => false
/-- New memory for slot d. -/
def newW (esc im : List Nat) (d : Nat) (vs : List PV) (st : St) (K : St → Prop) : Prop :=
  bcond (esc.contains d) (K ⟨st.sl.set d (.ptr st.sg.length 0), st.sg ++ [vs]⟩)
    (bcond (im.contains d) (K ⟨st.sl.set d (.eaddr (vs.map cstrip) 0), st.sg⟩) (chk (!(st.sl.any (isBaddr d))) (K ⟨st.sl.set d (.box vs), st.sg⟩)))
/-- What a call gives, told by its kind; slices may come with their room. -/
def tyR (P : Program) (F : Func) (v : PV) (K : PV → Prop) : Prop := match F.resultTypes.toList with
  | [t] => match P.underlying t with
    | some (.slice _) => K v
    | _ => tyV P t v K
  | _ => K v
def callF (P : Program) (call : Caller) (g : FuncId) (args : List PV) (sg : List (List PV)) (X K : PV → List (List PV) → Prop) : Prop := match P.funcs[g]? with
  | some F => chk F.body.isSome (call g args sg fun r sg => bcond r.pan (X r.v sg) (tyR P F r.v fun v => K v sg))
  | none => False
def callV (P : Program) (call : Caller) (st : St) (d : Option Tmp) (f : PV) (args : List PV) (K : St → Prop) (X : PV → St → Prop) : Prop := match f with
  | .fn g first caps => callF P call g (first ++ args ++ caps) st.sg (fun v sg => X v ⟨st.sl, sg⟩) (fun v sg => K ⟨setD st.sl d v, sg⟩)
  | _ => False
/-- A slice read with its room out of memory: the cell keeps the slice without it. -/
def takeW (st : St) (a : PV) (aop : Operand) (K : PV → St → Prop) : Prop := match place st.sl st.sg a with
  | some (cs, off) => match cs.getD off .undef with
    | .list true rows => setW st a aop [.list false rows] fun st' => K (.list true rows) st'
    | v => chk (decide (off + 1 ≤ cs.length)) (K v.cstrip st)
  | none => False
def isByteRow : List PV → Bool
  | [.int .u8 _] => true
  | _ => false
def rowByte : List PV → UInt8
  | [.int .u8 n] => UInt8.ofNat n.toNat
  | _ => 0
def bytesOf (r : List (List PV)) : ByteArray := ⟨(r.map rowByte).toArray⟩
def stepW (P : Program) (call : Caller) (h : Hint) (o : Oper) (st : St) (K : St → Prop) (X : PV → St → Prop) : Prop := match o.op with
  | .assign x => K ⟨setD (moved st.sl x) o.dst (mval (raw st.sl x)), st.sg⟩
  | .move x => bcond (match o.dst with | some d => h.tk.contains d | none => false) (K ⟨setD (moved st.sl x) o.dst (mval (raw st.sl x)), st.sg⟩) (K ⟨setD st.sl o.dst (val st.sl x), st.sg⟩)
  | .load t a => bcond (match o.dst with | some d => h.tk.contains d | none => false)
      (match szT P t, aggT P t with
        | some 1, some false => takeW st (raw st.sl a) a fun v st' => K ⟨setD st'.sl o.dst v, st'.sg⟩
        | _, _ => False)
      (loadV P st.sl st.sg t (raw st.sl a) fun v => K ⟨setD st.sl o.dst v, st.sg⟩)
  | .alloc t => match o.dst, zeroT P t with
    | some d, some z => newW h.esc h.im d z st K
    | _, _ => False
  | .box t x => match o.dst with
    | some d => cellsAs P t (bval (raw st.sl x)) fun vs => newW h.esc h.im d vs st K
    | none => False
  | .store t a x => cellsAs P t (mval' (raw st.sl x)) fun vs => setW ⟨moved st.sl x, st.sg⟩ (raw (moved st.sl x) a) a vs fun st' => K ⟨setD st'.sl o.dst .skip, st'.sg⟩
  | .buildSlice t n ps => match elemT P t with
    | some e => match szT P e, zeroT P e with
      | some (k' + 1), some z => chk (decide (n * (k' + 1) ≤ mostC) && z.length == k' + 1) (fillV P (fun i => some (i * (k' + 1), e)) st.sl (fun cs => chk (cs.all isCell) (K ⟨setD st.sl o.dst (.list true ((List.range n).map fun i => ((cs.drop (i * (k' + 1))).take (k' + 1)).map cstrip)), st.sg⟩)) ((List.replicate n z).flatten) ps.toList)
      | _, _ => False
    | none => False
  | .panic x => match val st.sl x with
    | .iface t v => X (.iface t v) st
    | _ => False
  | .call { callee := .builtin .append, args, argTypes } => match args.toList, argTypes.toList with
    | [x, y], [tx, ty] => match elemT P tx, elemT P ty with
      | some e, some _ => match szT P e, zeroT P e, P.info? e with
        | some (k + 1), some z, some i => ownV (raw st.sl x) fun rows => chk (z.length == k + 1 && (decide (i.bytes ≤ mostB) && ((val st.sl y).isL && (rowsOk (k + 1) rows && (rowsOk (k + 1) (val st.sl y).rows && decide (rows.length + (val st.sl y).rows.length ≤ mostL))))))
              (K ⟨setD (moved st.sl x) o.dst (.list true (rows ++ (val st.sl y).rows)), st.sg⟩)
        | _, _, _ => False
      | _, _ => False
    | _, _ => False
  | .call { callee := .value f, args, .. } => callV P call st o.dst (val st.sl f) (args.toList.map (val st.sl)) K X
  | .convert t u x => match elemT P t, P.underlying u with
    | some e, some .string => match P.underlying e with
      | some (.int .u8) => chk ((val st.sl x).isL && (val st.sl x).rows.all isByteRow) (K ⟨setD st.sl o.dst (.str (bytesOf (val st.sl x).rows)), st.sg⟩)
      | _ => False
    | _, _ => pureW P st.sl st.sg o.type (.convert t u x) fun v => K ⟨setD st.sl o.dst v, st.sg⟩
  | op => pureW P st.sl st.sg o.type op fun v => K ⟨setD st.sl o.dst v, st.sg⟩
def dstAt (ops : List Oper) (j : Nat) : Option Nat := match ops[j]? with
  | some o => o.dst
  | none => none
/-- An operation behind its guard. -/
def guardW (P : Program) (call : Caller) (h : Hint) (all : List Oper) (o : Oper) (st : St) (K : St → Prop) (X : PV → St → Prop) : Prop := match o.guard with
  | none => stepW P call h o st K X
  | some (j, want) => match dstAt all j with
    | some d => boolV (st.sl.getD d .undef) (bcond want (stepW P call h o ⟨st.sl.set d (.bool true), st.sg⟩ K X) (K ⟨setD (st.sl.set d (.bool true)) o.dst .skip, st.sg⟩))
          (bcond want (K ⟨setD (st.sl.set d (.bool false)) o.dst .skip, st.sg⟩) (stepW P call h o ⟨st.sl.set d (.bool false), st.sg⟩ K X))
          (K ⟨setD st.sl o.dst .skip, st.sg⟩)
    | none => False
/-- The list again, laid out. -/
def forceL {α : Type} : List α → (List α → Prop) → Prop
  | [], K => K []
  | x :: xs, K => forceL xs fun ys => K (x :: ys)
theorem forceL_eq {α : Type} : ∀ (l : List α) (K : List α → Prop), forceL l K = K l
  | [], K => rfl
  | x :: xs, K => by rw [forceL, forceL_eq xs]
def opsW (P : Program) (call : Caller) (h : Hint) (all : List Oper) : List Oper → St → (St → Prop) → (PV → St → Prop) → Prop
  | [], st, K, X => K st
  | o :: r, st, K, X => guardW P call h all o st (fun st' => forceL st'.sl fun sl => opsW P call h all r ⟨sl, st'.sg⟩ K X) X
def isPtrB : PV → Bool
  | .ptr _ _ => true
  | _ => false
def osg (m : Bool) (st : St) : List (List PV) := bcond m st.sg []
/-- An operation that only reads; of the objects only where m is set. -/
def readW (P : Program) (h : Hint) (m : Bool) (o : Oper) (st : St) (K : St → Prop) : Prop := match o.op with
  | .assign x => K ⟨setD (moved st.sl x) o.dst (mval (raw st.sl x)), st.sg⟩
  | .move x => bcond (match o.dst with | some d => h.tk.contains d | none => false) (K ⟨setD (moved st.sl x) o.dst (mval (raw st.sl x)), st.sg⟩) (K ⟨setD st.sl o.dst (val st.sl x), st.sg⟩)
  | .load t a => bcond (match o.dst with | some d => h.tk.contains d | none => false)
      (match szT P t, aggT P t with
        | some 1, some false => chk (!(isPtrB (raw st.sl a))) (takeW st (raw st.sl a) a fun v st' => K ⟨setD st'.sl o.dst v, st'.sg⟩)
        | _, _ => False)
      (loadV P st.sl (osg m st) t (raw st.sl a) fun v => K ⟨setD st.sl o.dst v, st.sg⟩)
  | op => pureW P st.sl (osg m st) o.type op fun v => K ⟨setD st.sl o.dst v, st.sg⟩
def guardR (P : Program) (h : Hint) (m : Bool) (all : List Oper) (o : Oper) (st : St) (K : St → Prop) : Prop := match o.guard with
  | none => readW P h m o st K
  | some (j, want) => match dstAt all j with
    | some d => boolV (st.sl.getD d .undef) (bcond want (readW P h m o ⟨st.sl.set d (.bool true), st.sg⟩ K) (K ⟨setD (st.sl.set d (.bool true)) o.dst .skip, st.sg⟩))
          (bcond want (K ⟨setD (st.sl.set d (.bool false)) o.dst .skip, st.sg⟩) (readW P h m o ⟨st.sl.set d (.bool false), st.sg⟩ K))
          (K ⟨setD st.sl o.dst .skip, st.sg⟩)
    | none => False
/-- Operations behind which a reader reads what it read; m: of the objects, too. -/
def mildOp (m : Bool) : Op → Bool
  | .store .. => false
  | .call c => match c.callee with
    | .builtin .append => false
    | .builtin _ => true
    | .value _ => !m
    | .invoke .. => false
  | _ => true
def lateIn (late : List (Nat × List Nat)) (listed : Array Bool) : Bool := late.any fun j => listed.getD j.1 false
/-- Each of these must have come before one of those seen. -/
def preOk (ops : Array Oper) : List Nat → List Nat → Bool
  | _, [] => true
  | seen, x :: r => (seen.any fun y => match ops[y]? with
    | some o => o.after.any fun e => Region.binds .any e && e.on == x
    | none => false) && preOk ops (x :: seen) r
def isLoadOp : Op → Bool
  | .load .. => true
  | _ => false
def OT.len : OT → Nat → Bool
  | .done, 0 => true
  | .step _ _ r, n + 1 => r.len n
  | .fork _ a _ b, n + 1 => a.len n && b.len n
  | _, _ => false
/-- An operation that acts may come now. -/
def actOk (ops : Array Oper) (late : List (Nat × List Nat)) (m : Bool) (i : Nat) : Bool := late.any (fun j => j.1 == i) || match ops[i]? with
  | some o => mildOp m o.op
  | none => false
/-- Whether an order may stand for all orders. step's f: 0: the only one that may come; 1, 2: taken first, 2 where only readers of all come behind it; 3: taken first, it reads no memory. -/
def drawOk (ops : Array Oper) (late : List (Nat × List Nat)) : Bool → OT → Array Bool → Bool
  | _, .done, listed => match Region.ready .any ops listed with
    | [] => true
    | _ => false
  | m, .step i f r, listed => match ops[i]? with
    | none => false
    | some o => bcond (f == 0)
        (match Region.ready .any ops listed with
          | [j] => (j == i) && (actOk ops late m i && drawOk ops late m r (listed.setIfInBounds i true))
          | _ => false)
        (Region.free .any ops listed i && ((Region.ready .any ops listed).contains i &&
          (bcond (f == 3) (!(late.any fun j => j.1 == i) && (!isLoadOp o.op)) ((!lateIn late listed) && (late.all fun j => j.2.contains i)) &&
            drawOk ops late (m || f == 2) r (listed.setIfInBounds i true))))
  | m, .fork i a j b, listed => match Region.ready .any ops listed with
    | [x, y] => (x == i) && ((y == j) && (actOk ops late m i && (actOk ops late m j && (drawOk ops late m a (listed.setIfInBounds i true) && drawOk ops late m b (listed.setIfInBounds j true)))))
    | _ => false
/-- The operations in that order. -/
def ordW (P : Program) (call : Caller) (h : Hint) (ops : Array Oper) : Bool → OT → St → (St → Prop) → (PV → St → Prop) → Prop
  | _, .done, st, K, _ => K st
  | m, .step i f r, st, K, X => match ops[i]? with
    | none => False
    | some o => bcond (f == 0) (guardW P call h ops.toList o st (fun st' => forceL st'.sl fun sl => ordW P call h ops m r ⟨sl, st'.sg⟩ K X) X)
        (guardR P h (m || f == 2) ops.toList o st fun st' => forceL st'.sl fun sl => ordW P call h ops (m || f == 2) r ⟨sl, st'.sg⟩ K X)
  | m, .fork i a j b, st, K, X => match ops[i]?, ops[j]? with
    | some o, some o' => guardW P call h ops.toList o st (fun st' => forceL st'.sl fun sl => ordW P call h ops m a ⟨sl, st'.sg⟩ K X) X ∧ guardW P call h ops.toList o' st (fun st' => forceL st'.sl fun sl => ordW P call h ops m b ⟨sl, st'.sg⟩ K X) X
    | _, _ => False
def drawW (P : Program) (call : Caller) (h : Hint) (id : Nat) (ops : Array Oper) (st : St) (K : St → Prop) (X : PV → St → Prop) : Prop := match h.ords.lookup id with
  | some (ord, late) => chk (Region.noSelect ops && (ord.len ops.size && ((late.all fun j => preOk ops [j.1] j.2) && drawOk ops late false ord (Array.replicate ops.size false)))) (ordW P call h ops false ord st K X)
  | none => False
def clear (clr : List Nat) (sl : List PV) : List PV := clr.foldl (fun s t => s.set t .undef) sl
abbrev Cont := Ex → St → Prop
/-- Goes on behind a part of the code that ends as usual. -/
def seqK (b : St → Cont → Prop) (K : Cont) : Cont := fun e st => match e with
  | .normal => b st K
  | e => K e st
def blockK (id : Nat) (K : Cont) : Cont := fun e st => match e with
  | .exit id' => bcond (id' == id) (K .normal st) (K (.exit id') st)
  | e => K e st
def loopW (body : St → Cont → Prop) : Nat → St → Cont → Prop
  | 0, _, _ => False
  | n + 1, st, K => body st (seqK (loopW body n) K)
def codeW (P : Program) (call : Caller) (n : Nat) (h : Hint) : Code → St → Cont → Prop
  | .skip, st, K => K .normal st
  | .label _, st, K => K .normal st
  | .ret, st, K => K .ret st
  | .exit id, st, K => K (.exit id) st
  | .region _ ops false, st, K => opsW P call h ops.toList ops.toList st (fun st' => forceL (clear h.clr st'.sl) fun sl => K .normal ⟨sl, st'.sg⟩) (fun v st' => K (.pan v) st')
  | .region id ops true, st, K => drawW P call h id ops st (fun st' => forceL (clear h.clr st'.sl) fun sl => K .normal ⟨sl, st'.sg⟩) (fun v st' => K (.pan v) st')
  | .seq a b, st, K => codeW P call n h a st (seqK (codeW P call n h b) K)
  | .cond c a b, st, K => chk (val st.sl c).isB (bcond (val st.sl c).toB (codeW P call n h a st K) (codeW P call n h b st K))
  | .block id a, st, K => codeW P call n h a st (blockK id K)
  | .loop a, st, K => loopW (codeW P call n h a) n st K
  | .scope a, st, K => codeW P call n h a st K
  | _, _, _ => False
def resV (P : Program) (st : St) (K : PV → Prop) : ResultVar → Prop
  | .tmp t => K (mval (st.sl.getD t .undef))
  | .cell a t => loadV P st.sl st.sg t (st.sl.getD a .undef) fun v => K v.strip
def resAll (P : Program) (st : St) (K : List PV → Prop) : List ResultVar → Prop
  | [] => K []
  | r :: rs => resV P st (fun v => resAll P st (fun vs => K (v.strip :: vs)) rs) r
def resultsW (P : Program) (F : Func) (st : St) (K : PV → Prop) : Prop := match F.results.toList with
  | [r] => resV P st K r
  | rs => resAll P st (fun vs => K (.tup vs)) rs
/-- The end of a function. -/
def finW (P : Program) (F : Func) (K : Res → List (List PV) → Prop) : Cont := fun e st => match e with
  | .normal => resultsW P F st fun v => K ⟨false, v⟩ st.sg
  | .ret => resultsW P F st fun v => K ⟨false, v⟩ st.sg
  | .pan v => K ⟨true, v⟩ st.sg
  | .exit _ => False
def bodyW (P : Program) (call : Caller) (n : Nat) (h : Hint) (F : Func) (args : List PV) (sg : List (List PV)) (K : Res → List (List PV) → Prop) : Prop := match F.body with
  | some c => codeW P call n h c ⟨args ++ List.replicate (F.ntmps - args.length) .skip, sg⟩ (finW P F K)
  | none => False
/-- A part of a function's code, by the way to it. -/
def Code.at : Code → List Nat → Code
  | c, [] => c
  | .seq a b, i :: p => bcond (i == 0) (Code.at a p) (Code.at b p)
  | .cond _ a b, i :: p => bcond (i == 0) (Code.at a p) (Code.at b p)
  | .block _ a, _ :: p => Code.at a p
  | .loop a, _ :: p => Code.at a p
  | .scope a, _ :: p => Code.at a p
  | c, _ => c
def codeAt (F : Func) (p : List Nat) : Code := match F.body with
  | some c => Code.at c p
  | none => .skip
/-- What the evaluator is told: functions whose answers are told apart, hints, the most rounds of a loop. -/
structure Env where
  P : Program
  foreign : FuncId → Option (Caller → List PV → List (List PV) → (Res → List (List PV) → Prop) → Prop)
  hint : FuncId → Hint
  n : Nat
/-- The evaluator: at most k calls deep. -/
def callW (E : Env) : Nat → Caller
  | 0 => fun _ _ _ _ => False
  | k + 1 => fun f args sg K => match E.foreign f with
    | some g => g (callW E k) args sg K
    | none => match E.P.funcs[f]? with
      | some F => bodyW E.P (callW E k) E.n (E.hint f) F args sg K
      | none => False
end
end Go.Ev
set_option linter.unusedSimpArgs false
namespace Go.Ev
open PV
inductive Rep (I : Nat → Nat → Option Value) (ob : List Nat) : PV → Value → Prop
  | int (k : IntKind) (n : Int) : Rep I ob (.int k n) (.int k n)
  | bool (b : Bool) : Rep I ob (.bool b) (.bool b)
  | str (s : ByteArray) : Rep I ob (.str s) (.string s)
  | nil : Rep I ob (.list false []) (.slice none 0 0)
  | list (rows : List (List PV)) (A : Addr) (c k : Nat) (f : Nat → Nat → Value) (hs : rows ≠ [] → A.spot = none) (hc : rows.length ≤ c) (hk : ∀ r ∈ rows, r.length = k)
      (hI : ∀ i j, i < rows.length → j < k → I A.block (A.off + (i * k + j)) = some (f i j)) (h1 : ∀ i j, i < rows.length → j < k → (f i j).oneCell' = true)
      (hR : ∀ i j, i < rows.length → j < k → Rep I ob ((rows.getD i []).getD j .undef) (f i j)) : Rep I ob (.list false rows) (.slice (some A) rows.length c)
  | agg (cs : List PV) (vs : Array Value) (hl : cs.length = vs.size) (h : ∀ j, j < cs.length → Rep I ob (cs.getD j .undef) (vs.getD j undef)) : Rep I ob (.agg cs) (.agg vs)
  | tup (cs : List PV) (vs : Array Value) (hl : cs.length = vs.size) (h : ∀ j, j < cs.length → Rep I ob (cs.getD j .undef) (vs.getD j undef)) : Rep I ob (.tup cs) (.tuple vs)
  | ptr (i off b : Nat) (h : ob[i]? = some b) : Rep I ob (.ptr i off) (.pointer (some ⟨b, off, none⟩))
  | eaddr (cells : List PV) (off b o : Nat) (f : Nat → Value) (hI : ∀ j, j < cells.length → I b (o + j) = some (f j)) (hR : ∀ j, j < cells.length → Rep I ob (cells.getD j .undef) (f j)) : Rep I ob (.eaddr cells off) (.pointer (some ⟨b, o + off, none⟩))
  | nilp : Rep I ob .nilp (.pointer none)
  | fn (f : FuncId) (cf cc : List PV) (vf vc : Array Value) (hf : cf.length = vf.size) (hc : cc.length = vc.size)
      (h1 : ∀ j, j < cf.length → Rep I ob (cf.getD j .undef) (vf.getD j undef)) (h2 : ∀ j, j < cc.length → Rep I ob (cc.getD j .undef) (vc.getD j undef)) : Rep I ob (.fn f cf cc) (.func (.func f) vf vc)
  | iface (t : TypeId) (v : PV) (x : Value) (h : Rep I ob v x) : Rep I ob (.iface t v) (.iface t x)
  | skip : Rep I ob .skip Go.undef
  | undef (v : Value) : Rep I ob .undef v
/-- Whose a block is. -/
inductive Tag where
  | lv (s : Nat)
  | bx (s : Nat)
  | bc (s j : Nat)
  | ob (i : Nat)
  | oc (i j : Nat)
  | out
  | rs
  deriving DecidableEq
/-- What is known of the memory: cells that stay as they are, the objects' blocks, whose a block is. -/
structure Gh where
  I : Nat → Nat → Option Value
  ob : List Nat
  G : Nat → Option Tag
  /-- What the frame puts off. -/
  D : List Deferred := []
def LeI (I I' : Nat → Nat → Option Value) : Prop := ∀ b o v, I b o = some v → I' b o = some v
def LeO (o o' : List Nat) : Prop := ∀ (i b : Nat), o[i]? = some b → o'[i]? = some b
theorem LeI.refl (I : Nat → Nat → Option Value) : LeI I I := fun _ _ _ h => h
theorem LeO.refl (o : List Nat) : LeO o o := fun _ _ h => h
theorem Rep.mono {I I' : Nat → Nat → Option Value} {ob ob' : List Nat} (hI : LeI I I') (ho : LeO ob ob') {p : PV} {v : Value} (h : Rep I ob p v) : Rep I' ob' p v := by
  induction h with
  | int k n => exact .int k n
  | bool b => exact .bool b
  | str s => exact .str s
  | nil => exact .nil
  | list rows A c k f hs hc hk hI' h1 hR ih => exact .list rows A c k f hs hc hk (fun i j h1 h2 => hI _ _ _ (hI' i j h1 h2)) h1 ih
  | agg cs vs hl h ih => exact .agg cs vs hl ih
  | tup cs vs hl h ih => exact .tup cs vs hl ih
  | ptr i off b h => exact .ptr i off b (ho _ _ h)
  | eaddr cells off b o f h1 h2 ih => exact .eaddr cells off b o f (fun j hj => hI _ _ _ (h1 j hj)) ih
  | nilp => exact .nilp
  | fn f cf cc vf vc hf hc h1 h2 i1 i2 => exact .fn f cf cc vf vc hf hc i1 i2
  | iface t v x h ih => exact .iface t v x ih
  | skip => exact .skip
  | undef v => exact .undef v
theorem Rep.eaddr_inv {I : Nat → Nat → Option Value} {ob : List Nat} {cells : List PV} {off : Nat} {v : Value} (h : Rep I ob (.eaddr cells off) v) :
    ∃ b o, v = .pointer (some ⟨b, o + off, none⟩) ∧ ∀ j, j < cells.length → ∃ x, I b (o + j) = some x ∧ Rep I ob (cells.getD j .undef) x := by
  cases h with
  | eaddr _ _ b o f h1 h2 => exact ⟨b, o, rfl, fun j hj => ⟨f j, h1 j hj, h2 j hj⟩⟩
theorem Rep.eaddr_mk {I : Nat → Nat → Option Value} {ob : List Nat} {cells : List PV} {off b o : Nat} (h : ∀ j, j < cells.length → ∃ x, I b (o + j) = some x ∧ Rep I ob (cells.getD j .undef) x) :
    Rep I ob (.eaddr cells off) (.pointer (some ⟨b, o + off, none⟩)) := by
  refine .eaddr cells off b o (fun j => if hj : j < cells.length then Classical.choose (h j hj) else Go.undef) ?_ ?_
  · intro j hj
    have := (Classical.choose_spec (h j hj)).1
    simpa [hj] using this
  · intro j hj
    have := (Classical.choose_spec (h j hj)).2
    simpa [hj] using this
theorem Rep.cell {I : Nat → Nat → Option Value} {ob : List Nat} {p : PV} {v : Value} (h : Rep I ob p v) (hp : p.isCell = true) : v.oneCell' = true := by
  cases h <;> first | rfl | simp [isCell] at hp
def RowsAt (γ : Gh) (b o k : Nat) (rows : List (List PV)) : Prop :=
  (∀ r ∈ rows, r.length = k) ∧ ∀ i j, i < rows.length → j < k → ∃ v, γ.I b (o + (i * k + j)) = some v ∧ v.oneCell' = true ∧ Rep γ.I γ.ob ((rows.getD i []).getD j .undef) v
theorem RowsAt.rep {γ : Gh} {A : Addr} {k c : Nat} {rows : List (List PV)} (h : RowsAt γ A.block A.off k rows) (hs : rows ≠ [] → A.spot = none) (hc : rows.length ≤ c) :
    Rep γ.I γ.ob (.list false rows) (.slice (some A) rows.length c) := by
  obtain ⟨hk, h⟩ := h
  refine .list rows A c k (fun i j => if hij : i < rows.length ∧ j < k then Classical.choose (h i j hij.1 hij.2) else Go.undef) hs hc hk ?_ ?_ ?_
  · intro i j h1 h2
    have := (Classical.choose_spec (h i j h1 h2)).1
    simpa [h1, h2] using this
  · intro i j h1 h2
    have := (Classical.choose_spec (h i j h1 h2)).2.1
    simpa [h1, h2] using this
  · intro i j h1 h2
    have := (Classical.choose_spec (h i j h1 h2)).2.2
    simpa [h1, h2] using this
theorem Rep.rows {γ : Gh} {o : Bool} {rows : List (List PV)} {v : Value} (h : Rep γ.I γ.ob (.list o rows) v) :
    o = false ∧ ((rows = [] ∧ v = .slice none 0 0) ∨ ∃ (A : Addr) (c k : Nat), v = .slice (some A) rows.length c ∧ (rows ≠ [] → A.spot = none) ∧ rows.length ≤ c ∧ RowsAt γ A.block A.off k rows) := by
  cases h with
  | nil => exact ⟨rfl, .inl ⟨rfl, rfl⟩⟩
  | list rows A c k f hs hc hk hI h0 hR => exact ⟨rfl, .inr ⟨A, c, k, rfl, hs, hc, hk, fun i j h1 h2 => ⟨f i j, hI i j h1 h2, h0 i j h1 h2, hR i j h1 h2⟩⟩⟩
theorem RowsAt.mono {γ γ' : Gh} {b o k : Nat} {rows : List (List PV)} (hI : LeI γ.I γ'.I) (ho : LeO γ.ob γ'.ob) (h : RowsAt γ b o k rows) : RowsAt γ' b o k rows :=
  ⟨h.1, fun i j h1 h2 => let ⟨v, hv, h0, hr⟩ := h.2 i j h1 h2; ⟨v, hI _ _ _ hv, h0, hr.mono hI ho⟩⟩
def Own0 (v : Value) : Prop := ∃ A : Option Addr, v = .slice A 0 0 ∧ ∀ a, A = some a → a.spot = none
/-- A slice whose room is its holder's. -/
def OwnAt (γ : Gh) (w : World) (t : Option Tag) (rows : List (List PV)) (v : Value) : Prop :=
  (rows = [] ∧ Own0 v) ∨
  (rows ≠ [] ∧ ∃ (A : Addr) (c k : Nat) (arr : Array Value) (el : TypeId), v = .slice (some A) rows.length c ∧ A.spot = none ∧ rows.length ≤ c ∧ RowsAt γ A.block A.off k rows ∧
    γ.G A.block = t ∧ w.heap[A.block]? = some (.cells arr el (0, 0)) ∧ A.off + c * k ≤ arr.size ∧ ∀ o, rows.length * k ≤ o → γ.I A.block (A.off + o) = none)
/-- A cell of a box. -/
def CellAt (γ : Gh) (w : World) (t : Tag) (p : PV) (v : Value) : Prop :=
  (∃ rows, p = .list true rows ∧ OwnAt γ w (some t) rows v) ∨ Rep γ.I γ.ob p v
def BoxAt (γ : Gh) (w : World) (t : Tag) (ct : Nat → Tag) (cells : List PV) (b : Nat) : Prop :=
  γ.G b = some t ∧ (∀ o, γ.I b o = none) ∧ ∃ (arr : Array Value) (el : TypeId), w.heap[b]? = some (.cells arr el (0, 0)) ∧ arr.size = cells.length ∧
    ∀ j, j < cells.length → CellAt γ w (ct j) (cells.getD j .undef) (arr.getD j Go.undef)
def NilAt (γ : Gh) (p : PV) (v : Value) : Prop := (p = .list true [] ∧ Own0 v) ∨ Rep γ.I γ.ob p v
/-- What stands in slot s. -/
def SlotAt (γ : Gh) (w : World) (sl : List PV) (tm : Array Value) (s : Nat) : PV → Value → Prop
  | .list true rows, v => OwnAt γ w (some (.lv s)) rows v
  | .box cells, v => ∃ b, v = .pointer (some ⟨b, 0, none⟩) ∧ BoxAt γ w (.bx s) (.bc s) cells b
  | .baddr s' off, v => (∃ cells, sl.getD s' .undef = .box cells) → ∃ b, tm.getD s' Go.undef = .pointer (some ⟨b, 0, none⟩) ∧ v = .pointer (some ⟨b, off, none⟩)
  | .agg cs, v => ∃ vs : Array Value, v = .agg vs ∧ cs.length = vs.size ∧ ∀ j, j < cs.length → NilAt γ (cs.getD j .undef) (vs.getD j Go.undef)
  | p, v => Rep γ.I γ.ob p v
structure Objs (γ : Gh) (sg : List (List PV)) (w : World) : Prop where
  imm : ∀ b o v, γ.I b o = some v → w.cell? ⟨b, o, none⟩ = some v
  inH : ∀ b t, γ.G b = some t → b < w.heap.size
  len : γ.ob.length = sg.length
  objs : ∀ i, i < sg.length → BoxAt γ w (.ob i) (.oc i) (sg.getD i []) (γ.ob.getD i 0)
structure Rel (γ : Gh) (st : St) (a : Act) (w : World) : Prop extends Objs γ st.sg w where
  size : a.tmps.size = st.sl.length
  defers : a.defers = γ.D
  slots : ∀ s, s < st.sl.length → SlotAt γ w st.sl a.tmps s (st.sl.getD s .undef) (a.tmps.getD s Go.undef)
/-- What is left as it was for others. -/
structure Ext (γ : Gh) (w : World) (γ' : Gh) (w' : World) : Prop where
  size : w.heap.size ≤ w'.heap.size
  leI : LeI γ.I γ'.I
  leO : LeO γ.ob γ'.ob
  D : γ'.D = γ.D
  io : w'.os = w.os ∧ w'.output = w.output ∧ w'.tape = w.tape
  keep : ∀ b, b < w.heap.size → (γ.G b = none ∨ γ.G b = some .out) → w'.heap[b]? = w.heap[b]? ∧ γ'.G b = γ.G b ∧ ∀ o, γ'.I b o = γ.I b o
theorem Ext.refl (γ : Gh) (w : World) : Ext γ w γ w := ⟨Nat.le_refl _, .refl _, .refl _, rfl, ⟨rfl, rfl, rfl⟩, fun _ _ _ => ⟨rfl, rfl, fun _ => rfl⟩⟩
theorem Ext.trans {γ γ1 γ2 : Gh} {w w1 w2 : World} (h : Ext γ w γ1 w1) (h' : Ext γ1 w1 γ2 w2) : Ext γ w γ2 w2 :=
  ⟨Nat.le_trans h.size h'.size, fun b o v hv => h'.leI _ _ _ (h.leI _ _ _ hv), fun i b hb => h'.leO _ _ (h.leO _ _ hb), h'.D.trans h.D, ⟨h'.io.1.trans h.io.1, h'.io.2.1.trans h.io.2.1, h'.io.2.2.trans h.io.2.2⟩, fun b hb hg => by
    obtain ⟨h1, h2, h3⟩ := h.keep b hb hg
    obtain ⟨k1, k2, k3⟩ := h'.keep b (Nat.lt_of_lt_of_le hb h.size) (by rw [h2]; exact hg)
    exact ⟨k1.trans h1, k2.trans h2, fun o => (k3 o).trans (h3 o)⟩⟩
/-- The blocks of a tag are as they were. -/
def Same (γ : Gh) (w : World) (γ' : Gh) (w' : World) (t : Tag) : Prop :=
  ∀ b, γ.G b = some t → w'.heap[b]? = w.heap[b]? ∧ γ'.G b = some t ∧ ∀ o, γ'.I b o = γ.I b o
section keep
variable {γ γ' : Gh} {w w' : World} (hI : LeI γ.I γ'.I) (ho : LeO γ.ob γ'.ob)
include hI ho
theorem OwnAt.keep {t : Tag} {rows : List (List PV)} {v : Value} (hs : Same γ w γ' w' t) (h : OwnAt γ w (some t) rows v) : OwnAt γ' w' (some t) rows v := by
  rcases h with h | ⟨hr, A, c, k, arr, el, rfl, h2, h3, h4, h5, h6, h7, h8⟩
  · exact .inl h
  · obtain ⟨k1, k2, k3⟩ := hs _ h5
    exact .inr ⟨hr, A, c, k, arr, el, rfl, h2, h3, h4.mono hI ho, k2, k1.trans h6, h7, fun o ho => (k3 _).trans (h8 o ho)⟩
theorem CellAt.keep {t : Tag} {p : PV} {v : Value} (hs : Same γ w γ' w' t) (h : CellAt γ w t p v) : CellAt γ' w' t p v := by
  rcases h with ⟨rows, rfl, h⟩ | h
  · exact .inl ⟨rows, rfl, h.keep hI ho hs⟩
  · exact .inr (h.mono hI ho)
theorem BoxAt.keep {t : Tag} {ct : Nat → Tag} {cells : List PV} {b : Nat} (hs : Same γ w γ' w' t) (hc : ∀ j, Same γ w γ' w' (ct j)) (h : BoxAt γ w t ct cells b) : BoxAt γ' w' t ct cells b := by
  obtain ⟨h1, h2, arr, el, h3, h4, h5⟩ := h
  obtain ⟨k1, k2, k3⟩ := hs _ h1
  exact ⟨k2, fun o => (k3 o).trans (h2 o), arr, el, k1.trans h3, h4, fun j hj => (h5 j hj).keep hI ho (hc j)⟩
theorem NilAt.keep {p : PV} {v : Value} (h : NilAt γ p v) : NilAt γ' p v := h.imp id fun h => h.mono hI ho
end keep
end Go.Ev
namespace Go.Ev
open PV
theorem getD_set {α : Type} (l : List α) (d s : Nat) (x y : α) : (l.set d x).getD s y = if s = d ∧ d < l.length then x else l.getD s y := by
  simp only [List.getD_eq_getElem?_getD, List.getElem?_set]
  by_cases h : d = s
  · subst h
    by_cases h2 : d < l.length <;> simp [h2]
  · have h' : ¬ s = d := fun e => h e.symm
    simp [h, h']
theorem getD_setA (l : Array Value) (d s : Nat) (x y : Value) : (l.setIfInBounds d x).getD s y = if s = d ∧ d < l.size then x else l.getD s y := by
  simp only [Array.getD_eq_getD_getElem?, Array.getElem?_setIfInBounds]
  by_cases h : d = s
  · subst h
    by_cases h2 : d < l.size <;> simp [h2]
  · have h' : ¬ s = d := fun e => h e.symm
    simp [h, h']
def BoxSame (sl sl' : List PV) (tm tm' : Array Value) (s : Nat) : Prop :=
  ∀ cells, sl'.getD s .undef = .box cells → (∃ cells', sl.getD s .undef = .box cells') ∧ tm'.getD s Go.undef = tm.getD s Go.undef
theorem BoxSame.refl (sl : List PV) (tm : Array Value) (s : Nat) : BoxSame sl sl tm tm s := fun cells h => ⟨⟨cells, h⟩, rfl⟩
structure SameS (γ : Gh) (w : World) (γ' : Gh) (w' : World) (s : Nat) : Prop where
  lv : Same γ w γ' w' (.lv s)
  bx : Same γ w γ' w' (.bx s)
  bc : ∀ j, Same γ w γ' w' (.bc s j)
theorem Same.refl (γ : Gh) (w : World) (t : Tag) : Same γ w γ w t := fun b h => ⟨rfl, h, fun _ => rfl⟩
theorem SameS.refl (γ : Gh) (w : World) (s : Nat) : SameS γ w γ w s := ⟨.refl _ _ _, .refl _ _ _, fun _ => .refl _ _ _⟩
theorem SlotAt.keep {γ γ' : Gh} {w w' : World} (hI : LeI γ.I γ'.I) (ho : LeO γ.ob γ'.ob) {sl sl' : List PV} {tm tm' : Array Value} {s : Nat} (hs : SameS γ w γ' w' s)
    {p : PV} (hb : ∀ s' off, p = .baddr s' off → BoxSame sl sl' tm tm' s') {v : Value} (h : SlotAt γ w sl tm s p v) : SlotAt γ' w' sl' tm' s p v := by
  cases p with
  | list o rows => cases o with
    | true => exact OwnAt.keep hI ho hs.lv h
    | false => exact Rep.mono hI ho h
  | box cells => obtain ⟨b, h1, h2⟩ := h; exact ⟨b, h1, h2.keep hI ho hs.bx hs.bc⟩
  | baddr s' off =>
    intro ⟨cells, hc⟩
    obtain ⟨h1, h2⟩ := hb s' off rfl cells hc
    obtain ⟨b, h3, h4⟩ := h h1
    exact ⟨b, h2.trans h3, h4⟩
  | eaddr cells off => exact Rep.mono hI ho h
  | agg cs => obtain ⟨vs, h1, h2, h3⟩ := h; exact ⟨vs, h1, h2, fun j hj => (h3 j hj).keep hI ho⟩
  | int k n => exact Rep.mono hI ho h
  | bool b => exact Rep.mono hI ho h
  | str s => exact Rep.mono hI ho h
  | tup cs => exact Rep.mono hI ho h
  | ptr i off => exact Rep.mono hI ho h
  | nilp => exact Rep.mono hI ho h
  | fn f a b => exact Rep.mono hI ho h
  | iface t v => exact Rep.mono hI ho h
  | skip => exact Rep.mono hI ho h
  | undef => exact Rep.mono hI ho h
structure SameO (γ : Gh) (w : World) (γ' : Gh) (w' : World) : Prop where
  ob : ∀ i, Same γ w γ' w' (.ob i)
  oc : ∀ i j, Same γ w γ' w' (.oc i j)
theorem SameO.refl (γ : Gh) (w : World) : SameO γ w γ w := ⟨fun _ => .refl _ _ _, fun _ _ => .refl _ _ _⟩
theorem Objs.keep {γ γ' : Gh} {w w' : World} {sg : List (List PV)} (hI : LeI γ.I γ'.I) (ho : γ'.ob = γ.ob) (hs : SameO γ w γ' w')
    (himm : ∀ b o v, γ'.I b o = some v → w'.cell? ⟨b, o, none⟩ = some v) (hin : ∀ b t, γ'.G b = some t → b < w'.heap.size) (h : Objs γ sg w) : Objs γ' sg w' :=
  ⟨himm, hin, by rw [ho]; exact h.len, fun i hi => by rw [ho]; exact (h.objs i hi).keep hI (by rw [ho]; exact .refl _) (hs.ob i) (hs.oc i)⟩
def PV.quiet : PV → Bool
  | .list true _ => false
  | .box _ => false
  | _ => true
/-- A slot is written. -/
theorem Rel.set {γ γ' : Gh} {w w' : World} {st : St} {a : Act} {sg' : List (List PV)} (h : Rel γ st a w) (hI : LeI γ.I γ'.I) (ho : LeO γ.ob γ'.ob) (hO : Objs γ' sg' w')
    (d : Nat) (p : PV) (v : Value) (hS : ∀ s, s ≠ d → SameS γ w γ' w' s) (hb : ∀ s', (∃ s off, st.sl.getD s .undef = .baddr s' off) → BoxSame st.sl (st.sl.set d p) a.tmps (a.tmps.setIfInBounds d v) s')
    (hv : d < st.sl.length → SlotAt γ' w' (st.sl.set d p) (a.tmps.setIfInBounds d v) d p v) (hD : γ'.D = γ.D := by rfl) : Rel γ' ⟨st.sl.set d p, sg'⟩ (a.put (some d) v) w' := by
  refine ⟨hO, ?_, h.defers.trans hD.symm, ?_⟩
  · simp [Act.put, h.size]
  · intro s hs
    simp only [List.length_set] at hs
    simp only [Act.put]
    by_cases e : s = d
    · subst e
      have h1 : s < a.tmps.size := by rw [h.size]; exact hs
      rw [getD_set, getD_setA]
      simp only [hs, h1, and_self, if_true]
      exact hv hs
    · rw [getD_set, getD_setA]
      simp only [e, false_and, if_false]
      exact (h.slots s hs).keep hI ho (hS s e) (fun s' off e => hb s' ⟨s, off, e⟩)
theorem BoxSame.put (sl : List PV) (tm : Array Value) (d : Nat) (p : PV) (v : Value) (hl : tm.size = sl.length) (hp : p.quiet = true ∨ ∃ r, p = .list true r) (s : Nat) : BoxSame sl (sl.set d p) tm (tm.setIfInBounds d v) s := by
  intro cells h
  rw [getD_set] at h
  rw [getD_setA]
  by_cases e : s = d ∧ d < sl.length
  · simp only [e, and_self, if_true] at h
    subst h
    rcases hp with hp | ⟨r, hp⟩ <;> simp [PV.quiet] at hp
  · simp only [e, if_false] at h
    have e' : ¬ (s = d ∧ d < tm.size) := by rw [hl]; exact e
    rw [if_neg e']
    exact ⟨⟨cells, h⟩, rfl⟩
/-- A slot takes a value that owns nothing. -/
theorem Rel.setQ {γ : Gh} {w : World} {st : St} {a : Act} (h : Rel γ st a w) (d : Option Tmp) (p : PV) (v : Value) (hq : p.quiet = true)
    (hv : ∀ s, SlotAt γ w st.sl a.tmps s p v) : Rel γ ⟨setD st.sl d p, st.sg⟩ (a.put d v) w := by
  cases d with
  | none => exact h
  | some d =>
    have hb := BoxSame.put st.sl a.tmps d p v h.size (.inl hq)
    exact h.set (.refl _) (.refl _) h.toObjs d p v (fun s _ => .refl _ _ _) (fun s' _ => hb s') (fun _ => (hv d).keep (.refl _) (.refl _) (.refl _ _ _) (fun s' _ _ => hb s'))
theorem Rep.slot {γ : Gh} {w : World} {sl : List PV} {tm : Array Value} {s : Nat} {p : PV} {v : Value} (h : Rep γ.I γ.ob p v) : SlotAt γ w sl tm s p v := by
  cases h with
  | agg cs vs hl h => exact ⟨vs, rfl, hl, fun j hj => .inr (h j hj)⟩
  | nil => exact .nil
  | list rows A c k f hs hc hk hI h0 hR => exact .list rows A c k f hs hc hk hI h0 hR
  | int k n => exact .int k n
  | bool b => exact .bool b
  | str s => exact .str s
  | tup cs vs hl h => exact .tup cs vs hl h
  | ptr i off b h => exact .ptr i off b h
  | eaddr cells off b o f h1 h2 => exact .eaddr cells off b o f h1 h2
  | nilp => exact .nilp
  | fn f cf cc vf vc hf hc h1 h2 => exact .fn f cf cc vf vc hf hc h1 h2
  | iface t v x h => exact .iface t v x h
  | skip => exact .skip
  | undef v => exact .undef v
theorem Rep.isQuiet {I : Nat → Nat → Option Value} {ob : List Nat} {p : PV} {v : Value} (h : Rep I ob p v) : p.quiet = true := by
  cases h <;> rfl
theorem Own0.rep {I : Nat → Nat → Option Value} {ob : List Nat} {v : Value} (h : Own0 v) : Rep I ob (.list false []) v := by
  obtain ⟨A, rfl, hA⟩ := h
  cases A with
  | none => exact .nil
  | some A => exact .list [] A 0 0 (fun _ _ => Go.undef) (fun _ => hA A rfl) (Nat.le_refl _) (by simp) (by simp) (by simp) (by simp)
theorem OwnAt.rep {γ : Gh} {w : World} {t : Option Tag} {rows : List (List PV)} {v : Value} (h : OwnAt γ w t rows v) : Rep γ.I γ.ob (.list false rows) v := by
  rcases h with ⟨rfl, h⟩ | ⟨hr, A, c, k, arr, el, rfl, h2, h3, h4, _⟩
  · exact h.rep
  · exact h4.rep (fun _ => h2) h3
theorem NilAt.cstrip {γ : Gh} {p : PV} {v : Value} (h : NilAt γ p v) : Rep γ.I γ.ob p.cstrip v := by
  rcases h with ⟨rfl, h⟩ | h
  · exact h.rep
  · cases h with
    | nil => exact .nil
    | list rows A c k f hs hc hk hI h0 hR => exact .list rows A c k f hs hc hk hI h0 hR
    | agg cs vs hl h => exact .agg cs vs hl h
    | int k n => exact .int k n
    | bool b => exact .bool b
    | str s => exact .str s
    | tup cs vs hl h => exact .tup cs vs hl h
    | ptr i off b h => exact .ptr i off b h
    | eaddr cells off b o f h1 h2 => exact .eaddr cells off b o f h1 h2
    | nilp => exact .nilp
    | fn f cf cc vf vc hf hc h1 h2 => exact .fn f cf cc vf vc hf hc h1 h2
    | iface t v x h => exact .iface t v x h
    | skip => exact .skip
    | undef v => exact .undef v
theorem CellAt.cstrip {γ : Gh} {w : World} {t : Tag} {p : PV} {v : Value} (h : CellAt γ w t p v) : Rep γ.I γ.ob p.cstrip v := by
  rcases h with ⟨rows, rfl, h⟩ | h
  · exact h.rep
  · exact NilAt.cstrip (.inr h)
theorem getD_map' {α β : Type} (f : α → β) (l : List α) (j : Nat) (x : α) (y : β) (h : j < l.length) : (l.map f).getD j y = f (l.getD j x) := by
  simp [List.getD_eq_getElem?_getD, h]
theorem SlotAt.strip {γ : Gh} {w : World} {sl : List PV} {tm : Array Value} {s : Nat} {p : PV} {v : Value} (h : SlotAt γ w sl tm s p v) : Rep γ.I γ.ob p.strip v := by
  cases p with
  | list o rows => cases o with
    | true => exact OwnAt.rep h
    | false => exact h
  | box cells => exact .undef _
  | baddr s' off => exact .undef _
  | eaddr cells off => exact h
  | agg cs =>
    obtain ⟨vs, rfl, h2, h3⟩ := h
    refine .agg _ vs (by simp [h2]) fun j hj => ?_
    simp only [List.length_map] at hj
    rw [getD_map' PV.cstrip cs j .undef .undef hj]
    exact (h3 j hj).cstrip
  | int k n => exact h
  | bool b => exact h
  | str s => exact h
  | tup cs => exact h
  | ptr i off => exact h
  | nilp => exact h
  | fn f a b => exact h
  | iface t v => exact h
  | skip => exact h
  | undef => exact h
theorem absC_nil {γ : Gh} (v : Value) : NilAt γ (absC v) v := by
  unfold absC
  split
  · exact .inr (.int _ _)
  · exact .inr (.bool _)
  · exact .inr (.str _)
  · exact .inl ⟨rfl, none, rfl, by simp⟩
  · exact .inr .nilp
  · exact .inr (.undef _)
theorem absV_slot {γ : Gh} {w : World} {sl : List PV} {tm : Array Value} {s : Nat} (v : Value) : SlotAt γ w sl tm s (absV v) v := by
  unfold absV
  split
  · rename_i cs
    refine ⟨cs, rfl, by simp, fun j hj => ?_⟩
    simp only [List.length_map, Array.length_toList] at hj
    rw [getD_map' absC cs.toList j Go.undef .undef (by simpa using hj)]
    have : cs.toList.getD j Go.undef = cs.getD j Go.undef := by simp [List.getD_eq_getElem?_getD, Array.getD_eq_getD_getElem?]
    rw [this]
    exact absC_nil _
  · exact Rep.slot (.undef _)
  · rcases absC_nil (γ := γ) v with ⟨h1, h2⟩ | h
    · rw [h1]; exact .inl ⟨rfl, h2⟩
    · exact h.slot
theorem Rel.raw {γ : Gh} {st : St} {a : Act} {w : World} (h : Rel γ st a w) (x : Operand) (s : Nat) (hs : ∀ t, x = .tmp t → t < st.sl.length → s = t) : SlotAt γ w st.sl a.tmps s (raw st.sl x) (a.eval x) := by
  cases x with
  | tmp t =>
    simp only [Ev.raw, Act.eval]
    by_cases ht : t < st.sl.length
    · rw [hs t rfl ht]; exact h.slots t ht
    · rw [show st.sl.getD t .undef = PV.undef by simp [List.getD_eq_getElem?_getD, List.getElem?_eq_none (Nat.le_of_not_lt ht)]]
      exact Rep.slot (.undef _)
  | const v => exact absV_slot v
  | func f => exact Rep.slot (.fn f [] [] #[] #[] rfl rfl (by simp) (by simp))
  | global g => exact Rep.slot (.undef _)
theorem Rel.val {γ : Gh} {st : St} {a : Act} {w : World} (h : Rel γ st a w) (x : Operand) : Rep γ.I γ.ob (val st.sl x) (a.eval x) := by
  cases x with
  | tmp t => exact SlotAt.strip (h.raw (.tmp t) t (fun _ e _ => by injection e))
  | const v => exact SlotAt.strip (h.raw (.const v) 0 (by simp))
  | func f => exact SlotAt.strip (h.raw (.func f) 0 (by simp))
  | global g => exact SlotAt.strip (h.raw (.global g) 0 (by simp))
end Go.Ev
namespace Go.Ev
open PV
theorem chk_iff {b : Bool} {x : Prop} : chk b x ↔ b = true ∧ x := by cases b <;> simp [chk, bcond]
section inv
variable {I : Nat → Nat → Option Value} {ob : List Nat} {p : PV} {v : Value}
theorem isI_inv {k : IntKind} (h : Rep I ob p v) (hp : p.isI k = true) : v = .int k p.toI := by
  cases h <;> simp [isI] at hp
  subst hp; rfl
theorem isB_inv (h : Rep I ob p v) (hp : p.isB = true) : v = .bool p.toB := by
  cases h <;> simp [isB] at hp
  rfl
theorem isS_inv (h : Rep I ob p v) (hp : p.isS = true) : v = .string p.toS := by
  cases h <;> simp [isS] at hp
  rfl
theorem isAgg_inv (h : Rep I ob p v) (hp : p.isAgg = true) : ∃ vs : Array Value, v = .agg vs ∧ p.aggC.length = vs.size ∧ ∀ j, j < p.aggC.length → Rep I ob (p.aggC.getD j .undef) (vs.getD j Go.undef) := by
  cases h <;> simp [PV.isAgg] at hp
  rename_i cs vs hl h
  exact ⟨vs, rfl, hl, h⟩
end inv
theorem isL_inv {γ : Gh} {p : PV} {v : Value} (h : Rep γ.I γ.ob p v) (hp : p.isL = true) :
    (p.rows = [] ∧ v = .slice none 0 0) ∨ ∃ (A : Addr) (c k : Nat), v = .slice (some A) p.rows.length c ∧ (p.rows ≠ [] → A.spot = none) ∧ p.rows.length ≤ c ∧ RowsAt γ A.block A.off k p.rows := by
  cases p <;> simp [isL] at hp
  exact (Rep.rows h).2
section types
variable {P : Program} {t : TypeId} (w : World)
theorem run_szT {n : Nat} (h : szT P t = some n) : (sizeOf t).run P w = .ok n w := by
  unfold szT at h
  split at h
  · rename_i i hi; simp at h; simp [sizeOf, typeInfo, hi, h]
  · simp at h
theorem run_aggT {b : Bool} (h : aggT P t = some b) : (isAgg t).run P w = .ok b w := by
  unfold aggT at h
  split at h <;> simp at h <;> subst h
  · rename_i hd; simp [Go.isAgg, run_underlying hd]
  · rename_i hd; simp [Go.isAgg, run_underlying hd]
  · rename_i d h1 h2 hd
    simp only [Go.isAgg, Sem.run_bind, run_underlying hd, Result.andThen_ok]
    rfl
theorem run_und {d : TypeDesc} (h : P.underlying t = some d) : (underlying t).run P w = .ok d w := run_underlying h w
end types
theorem add_none (b o j : Nat) : (⟨b, o, none⟩ : Addr).add j = ⟨b, o + j, none⟩ := by
  unfold Addr.add; split <;> simp_all
def slotIx : Operand → Nat
  | .tmp t => t
  | _ => 0
theorem Rel.rawS {γ : Gh} {st : St} {a : Act} {w : World} (h : Rel γ st a w) (x : Operand) : SlotAt γ w st.sl a.tmps (slotIx x) (Ev.raw st.sl x) (a.eval x) :=
  h.raw x _ (fun t e _ => by subst e; rfl)
theorem BoxAt.cells {γ : Gh} {w : World} {t : Tag} {ct : Nat → Tag} {cells : List PV} {b : Nat} (h : BoxAt γ w t ct cells b) (j : Nat) (hj : j < cells.length) :
    ∃ v, w.cell? ⟨b, 0 + j, none⟩ = some v ∧ Rep γ.I γ.ob (cells.getD j .undef).cstrip v := by
  obtain ⟨_, _, arr, el, h3, h4, h5⟩ := h
  refine ⟨arr.getD j Go.undef, ?_, (h5 j hj).cstrip⟩
  have : j < arr.size := by omega
  simp [World.cell?, h3, this, Array.getD_eq_getD_getElem?]
def boxTag (m : Bool) : Tag → Bool
  | .bx _ => true
  | .ob _ => m
  | _ => false
/-- A world in which a reader reads what it reads in another. m: of the objects, too. -/
structure Held (m : Bool) (γ : Gh) (w w' : World) : Prop where
  imm : ∀ b o v, γ.I b o = some v → w'.cell? ⟨b, o, none⟩ = some v
  box : ∀ b t, γ.G b = some t → boxTag m t = true → w'.heap[b]? = w.heap[b]?
theorem Objs.held {γ : Gh} {sg : List (List PV)} {w : World} (h : Objs γ sg w) (m : Bool) : Held m γ w w := ⟨h.imm, fun _ _ _ _ => rfl⟩
theorem BoxAt.cells' {m : Bool} {γ : Gh} {w : World} {t : Tag} {ct : Nat → Tag} {cells : List PV} {b : Nat} (h : BoxAt γ w t ct cells b) (ht : boxTag m t = true) (j : Nat) (hj : j < cells.length) :
    ∃ v, (∀ w', Held m γ w w' → w'.cell? ⟨b, 0 + j, none⟩ = some v) ∧ Rep γ.I γ.ob (cells.getD j .undef).cstrip v := by
  obtain ⟨v, h1, h2⟩ := h.cells j hj
  refine ⟨v, fun w' hw => ?_, h2⟩
  simp only [World.cell?, hw.box b t h.1 ht]
  exact h1
theorem place_cells {m : Bool} {γ : Gh} {st : St} {a : Act} {w : World} (h : Rel γ st a w) (x : Operand) {cs : List PV} {off : Nat} (hp : place st.sl (osg m st) (Ev.raw st.sl x) = some (cs, off)) :
    ∃ b o, a.eval x = .pointer (some ⟨b, o + off, none⟩) ∧ ∀ j, j < cs.length → ∃ v, (∀ w', Held m γ w w' → w'.cell? ⟨b, o + j, none⟩ = some v) ∧ Rep γ.I γ.ob (cs.getD j .undef).cstrip v := by
  have hx := h.rawS x
  generalize Ev.raw st.sl x = p at *
  generalize a.eval x = va at *
  unfold place at hp
  split at hp
  · simp at hp; obtain ⟨rfl, rfl⟩ := hp
    obtain ⟨b, o, h1, h2⟩ := Rep.eaddr_inv hx
    exact ⟨b, o, h1, fun j hj => let ⟨v, hv, hr⟩ := h2 j hj; ⟨v, fun w' hw => hw.imm _ _ _ hv, NilAt.cstrip (.inr hr)⟩⟩
  · rename_i s off'
    split at hp
    · rename_i cs' hc
      simp at hp; obtain ⟨rfl, rfl⟩ := hp
      obtain ⟨b, h1, h2⟩ := hx ⟨_, hc⟩
      have hlt : s < st.sl.length := by
        by_cases hlt : s < st.sl.length
        · exact hlt
        · simp [List.getD_eq_getElem?_getD, List.getElem?_eq_none (Nat.le_of_not_lt hlt)] at hc
      have hs := h.slots s hlt
      rw [hc] at hs
      obtain ⟨b', h3, h4⟩ := hs
      rw [h1] at h3; injection h3 with h3; injection h3 with h3; injection h3 with h3; subst h3
      exact ⟨b, 0, by simpa using h2, fun j hj => h4.cells' rfl j hj⟩
    · simp at hp
  · simp at hp; obtain ⟨rfl, rfl⟩ := hp
    obtain ⟨b, h1, h2⟩ := hx
    exact ⟨b, 0, by simpa using h1, fun j hj => h2.cells' rfl j hj⟩
  · rename_i i off'
    cases m with
    | false => simp [osg, bcond] at hp
    | true =>
      simp only [osg, bcond] at hp
      split at hp
      · rename_i cs' hc
        simp at hp; obtain ⟨rfl, rfl⟩ := hp
        cases hx with
        | ptr _ _ b hb =>
          have hi : i < st.sg.length := (List.getElem?_eq_some_iff.mp hc).1
          have := h.objs i hi
          have e1 : st.sg.getD i [] = cs' := by simp [List.getD_eq_getElem?_getD, hc]
          have e2 : γ.ob.getD i 0 = b := by simp [List.getD_eq_getElem?_getD, hb]
          rw [e1, e2] at this
          exact ⟨b, 0, by simp, fun j hj => this.cells' rfl j hj⟩
      · simp at hp
  · simp at hp
section ty
variable {P : Program} {I : Nat → Nat → Option Value} {ob : List Nat}
theorem tyC_sound {t : TypeId} {p : PV} {v : Value} {K : PV → Prop} (h : Rep I ob p v) (hk : tyC P t p K) : K p := by
  unfold tyC at hk
  split at hk
  · obtain ⟨h1, hk⟩ := chk_iff.mp hk
    cases p <;> simp [isB] at h1
    exact hk
  · obtain ⟨h1, hk⟩ := chk_iff.mp hk
    cases p <;> simp [isI] at h1
    subst h1
    exact hk
  · obtain ⟨h1, hk⟩ := chk_iff.mp hk
    cases p <;> simp [isS] at h1
    exact hk
  · obtain ⟨h1, hk⟩ := chk_iff.mp hk
    cases p <;> simp [isL] at h1
    cases h <;> exact hk
  · exact hk
theorem tyCells_sound : ∀ (ts : List TypeId) (i : Nat) (cs : List PV) (vs : Nat → Value) {K : List PV → Prop}, cs.length = i + ts.length → (∀ j, j < cs.length → Rep I ob (cs.getD j .undef) (vs j)) → tyCells P ts i cs K → K (cs.drop i)
  | [], i, cs, _, K, hl, _, hk => by
    have : cs.drop i = [] := List.drop_eq_nil_of_le (by simp at hl; omega)
    rw [this]; exact hk
  | t :: ts, i, cs, vs, K, hl, hr, hk => by
    simp only [List.length_cons] at hl
    have h0 : tyC P t (cs.getD i .undef) (fun c => tyCells P ts (i + 1) cs fun r => K (c :: r)) := hk
    have h1 := tyC_sound (hr i (by omega)) h0
    have h2 := tyCells_sound ts (i + 1) cs vs (by omega) hr h1
    have e : cs.drop i = cs.getD i .undef :: cs.drop (i + 1) := by
      rw [List.drop_eq_getElem_cons (by omega : i < cs.length)]
      simp [List.getD_eq_getElem?_getD, show i < cs.length by omega]
    rw [e]; exact h2
theorem tyV_sound {t : TypeId} {p : PV} {v : Value} {K : PV → Prop} (h : Rep I ob p v) (hk : tyV P t p K) : K p := by
  unfold tyV at hk
  split at hk
  · obtain ⟨h1, hk⟩ := chk_iff.mp hk
    simp only [Bool.and_eq_true, beq_iff_eq] at h1
    obtain ⟨vs, _, _, h3⟩ := isAgg_inv h h1.1
    have := tyCells_sound _ 0 _ (fun j => vs.getD j Go.undef) (by rw [h1.2]; omega) h3 hk
    cases p <;> simp [PV.isAgg] at h1
    simpa [PV.aggC] using this
  · exact tyC_sound h hk
end ty
/-- What a quiet operation gives. -/
def Gives (H : World → Prop) (P : Program) (γ : Gh) (w : World) (sl : List PV) (tm : Array Value) (s : Sem Value) (K : PV → Prop) : Prop :=
  ∃ p v, K p ∧ (∀ w', H w' → s.run P w' = .ok v w') ∧ p.quiet = true ∧ ∀ i, SlotAt γ w sl tm i p v
theorem gives_rep {H : World → Prop} {P : Program} {γ : Gh} {w : World} {sl : List PV} {tm : Array Value} {s : Sem Value} {K : PV → Prop} {p : PV} {v : Value} (hk : K p) (hr : ∀ w', H w' → s.run P w' = .ok v w') (h : Rep γ.I γ.ob p v) : Gives H P γ w sl tm s K :=
  ⟨p, v, hk, hr, h.isQuiet, fun _ => h.slot⟩
section ops
variable {m : Bool} {H : World → Prop} {P : Program} {γ : Gh} {st : St} {a : Act} {w : World} (h : Rel γ st a w) {K : PV → Prop}
include h
theorem load_sound (hH : ∀ w', H w' → Held m γ w w') {t : TypeId} {x : Operand} (hk : loadV P st.sl (osg m st) t (Ev.raw st.sl x) K) : Gives H P γ w st.sl a.tmps (Instr.loadAt t (a.eval x)) K := by
  have hw0 := h.toObjs.held m
  rw [loadV_eq] at hk
  split at hk
  · rename_i cs off z hp hz ha
    obtain ⟨hl, hk⟩ := chk_iff.mp hk
    simp at hl
    obtain ⟨b, o, h1, h2⟩ := place_cells h x hp
    let f : Nat → Value := fun j => (w.cell? ⟨b, o + off + j, none⟩).getD Go.undef
    have hf : ∀ j, j < z → (∀ w', Held m γ w w' → w'.cell? ⟨b, o + off + j, none⟩ = some (f j)) ∧ Rep γ.I γ.ob (cs.getD (off + j) .undef).cstrip (f j) := by
      intro j hj
      obtain ⟨v, hv, hr⟩ := h2 (off + j) (by omega)
      rw [← Nat.add_assoc] at hv
      have e := hv w hw0
      simp only [f, e, Option.getD_some]
      exact ⟨hv, hr⟩
    have hrep : Rep γ.I γ.ob (.agg (((cs.drop off).take z).map PV.cstrip)) (.agg ((List.range z).map f).toArray) := by
      refine .agg _ _ (by simp; omega) fun j hj => ?_
      simp at hj
      have hj' : j < z := by omega
      rw [getD_map' PV.cstrip _ j .undef .undef (by simp; omega)]
      have e1 : ((cs.drop off).take z).getD j .undef = cs.getD (off + j) .undef := by
        simp [List.getD_eq_getElem?_getD, List.getElem?_take, hj', List.getElem?_drop]
      have e2 : ((List.range z).map f).toArray.getD j Go.undef = f j := by simp [Array.getD_eq_getD_getElem?, hj']
      rw [e1, e2]
      exact (hf j hj').2
    have hk := tyV_sound hrep hk
    refine gives_rep hk (fun w' hw' => ?_) hrep
    have hrun := run_loadCells (P := P) w' ⟨b, o + off, none⟩ z f (fun j hj => by rw [add_none]; exact (hf j hj).1 w' (hH w' hw'))
    simp [Instr.loadAt, Instr.sureAddr, h1, loadVar, run_aggT w' ha, run_szT w' hz, hrun]
  · rename_i cs off hp hz ha
    obtain ⟨hl, hk⟩ := chk_iff.mp hk
    simp at hl
    obtain ⟨b, o, h1, h2⟩ := place_cells h x hp
    obtain ⟨v, hv, hr⟩ := h2 off (by omega)
    have hk := tyC_sound hr hk
    refine gives_rep hk (fun w' hw' => ?_) hr
    have e := hv w' (hH w' hw')
    simp [Instr.loadAt, Instr.sureAddr, h1, loadVar, run_aggT w' ha, e]
  · exact hk.elim
omit h in
theorem int_sound {op : BinOp} {k : IntKind} {x y : Int} {t : TypeId} (hk : intBin op k x y K) : Gives H P γ w st.sl a.tmps (binOp op t (.int k x) (.int k y)) K := by
  unfold intBin at hk
  split at hk
  · exact gives_rep hk (fun w' hw' => by simp [binOp, Op.intArith]) (.int _ _)
  · exact gives_rep hk (fun w' hw' => by simp [binOp, Op.intArith]) (.int _ _)
  · exact gives_rep hk (fun w' hw' => by simp [binOp, Op.intArith]) (.int _ _)
  · obtain ⟨h0, hk⟩ := chk_iff.mp hk
    exact gives_rep hk (fun w' hw' => by simp at h0; simp [binOp, Op.intDiv, h0]) (.int _ _)
  · obtain ⟨h0, hk⟩ := chk_iff.mp hk
    exact gives_rep hk (fun w' hw' => by simp at h0; simp [binOp, Op.intDiv, h0]) (.int _ _)
  · exact gives_rep hk (fun w' hw' => by simp [binOp, Op.intCmp]) (.bool _)
  · exact gives_rep hk (fun w' hw' => by simp [binOp, Op.intCmp]) (.bool _)
  · exact gives_rep hk (fun w' hw' => by simp [binOp, Op.intCmp]) (.bool _)
  · exact gives_rep hk (fun w' hw' => by simp [binOp, Op.intCmp]) (.bool _)
  · exact gives_rep hk (fun w' hw' => by simp [binOp, Op.intCmp]) (.bool _)
  · exact gives_rep hk (fun w' hw' => by simp [binOp, Op.intCmp]) (.bool _)
  · exact hk.elim
omit h in
theorem str_sound {op : BinOp} {x y : ByteArray} {t : TypeId} (hk : strBin op x y K) : Gives H P γ w st.sl a.tmps (binOp op t (.string x) (.string y)) K := by
  unfold strBin at hk
  split at hk
  · obtain ⟨h0, hk⟩ := chk_iff.mp hk
    refine gives_rep hk (fun w' hw' => ?_) (.str _)
    have : ¬ ((x.size + y.size : Nat) : Int) > IntKind.i64.max := by simpa [sumOk_eq] using h0
    simp only [binOp, Op.stringOp, if_neg this, Sem.run_pure, cat_eq]
  · exact gives_rep hk (fun w' hw' => by simp [binOp, Op.stringOp]) (.bool _)
  · exact gives_rep hk (fun w' hw' => by simp [binOp, Op.stringOp]) (.bool _)
  · exact gives_rep hk (fun w' hw' => by simp [binOp, Op.stringOp]) (.bool _)
  · exact gives_rep hk (fun w' hw' => by simp [binOp, Op.stringOp]) (.bool _)
  · exact gives_rep hk (fun w' hw' => by simp [binOp, Op.stringOp]) (.bool _)
  · exact gives_rep hk (fun w' hw' => by simp [binOp, Op.stringOp]) (.bool _)
  · exact hk.elim
theorem bin_sound {op : BinOp} {t : TypeId} {x y : Operand} (hk : binV P op t (val st.sl x) (val st.sl y) K) :
    Gives H P γ w st.sl a.tmps (do eqGuard op t x y (a.eval x) (a.eval y); binOp op t (a.eval x) (a.eval y)) K := by
  have hx := h.val x
  have hy := h.val y
  unfold binV at hk
  split at hk
  · obtain ⟨h0, hk⟩ := chk_iff.mp hk
    simp at h0
    rw [isI_inv hx h0.1, isI_inv hy h0.2]
    obtain ⟨p, v, h1, h2, h3⟩ := int_sound (H := H) (P := P) (γ := γ) (st := st) (a := a) (w := w) (t := t) hk
    refine ⟨p, v, h1, fun w' hw' => ?_, h3⟩
    rw [Sem.run_bind, show (eqGuard op t x y (.int _ _) (.int _ _)).run P w' = .ok () w' by unfold eqGuard; cases op <;> simp]
    exact h2 w' hw'
  · obtain ⟨h0, hk⟩ := chk_iff.mp hk
    simp at h0
    rw [isS_inv hx h0.1, isS_inv hy h0.2]
    obtain ⟨p, v, h1, h2, h3⟩ := str_sound (H := H) (P := P) (γ := γ) (st := st) (a := a) (w := w) (t := t) hk
    refine ⟨p, v, h1, fun w' hw' => ?_, h3⟩
    rw [Sem.run_bind, show (eqGuard op t x y (.string _) (.string _)).run P w' = .ok () w' by unfold eqGuard; cases op <;> simp]
    exact h2 w' hw'
  · rename_i hu
    split at hk
    · obtain ⟨h0, hk⟩ := chk_iff.mp hk
      simp at h0
      rw [isB_inv hx h0.1, isB_inv hy h0.2]
      exact gives_rep hk (fun w' hw' => by rw [Sem.run_bind, show (eqGuard .eql t x y (.bool (val st.sl x).toB) (.bool (val st.sl y).toB)).run P w' = .ok () w' by simp [eqGuard]]; exact run_eql_bool w' t _ _ hu) (.bool _)
    · obtain ⟨h0, hk⟩ := chk_iff.mp hk
      simp at h0
      rw [isB_inv hx h0.1, isB_inv hy h0.2]
      exact gives_rep hk (fun w' hw' => by rw [Sem.run_bind, show (eqGuard .neq t x y (.bool (val st.sl x).toB) (.bool (val st.sl y).toB)).run P w' = .ok () w' by simp [eqGuard]]; exact run_neq_bool w' t _ _ hu) (.bool _)
    · exact hk.elim
  · exact hk.elim
theorem un_sound {op : UnOp} {t : TypeId} {x : Operand} (hk : unV P op t (val st.sl x) K) : Gives H P γ w st.sl a.tmps (Op.unary op (a.eval x)) K := by
  have hx := h.val x
  unfold unV at hk
  split at hk
  · obtain ⟨h0, hk⟩ := chk_iff.mp hk
    rw [isI_inv hx h0]
    exact gives_rep hk (fun w' hw' => by simp [Op.unary, Op.intArith]) (.int _ _)
  · obtain ⟨h0, hk⟩ := chk_iff.mp hk
    rw [isB_inv hx h0]
    exact gives_rep hk (fun w' hw' => by simp [Op.unary]) (.bool _)
  · exact hk.elim
end ops
end Go.Ev
namespace Go.Ev
open PV
theorem addr_add (A : Addr) (n : Nat) (hs : A.spot = none) : A.add n = ⟨A.block, A.off + n, none⟩ := by
  obtain ⟨b, o, s⟩ := A
  simp at hs; subst hs
  exact add_none b o n
theorem rowsOk_iff {k : Nat} {r : List (List PV)} : rowsOk k r = true ↔ ∀ x ∈ r, x.length = k := by simp [rowsOk]
theorem RowsAt.cast {γ : Gh} {b o k k' : Nat} {rows : List (List PV)} (h : RowsAt γ b o k' rows) (hk : rowsOk k rows = true) : RowsAt γ b o k rows := by
  rw [rowsOk_iff] at hk
  cases rows with
  | nil => exact ⟨by simp, by simp⟩
  | cons r rs =>
    have h1 := hk r (by simp)
    have h2 := h.1 r (by simp)
    rw [← h1, h2]
    exact h
theorem RowsAt.cut {γ : Gh} {b o k l n : Nat} {rows : List (List PV)} (h : RowsAt γ b o k rows) : RowsAt γ b (o + l * k) k ((rows.drop l).take n) := by
  refine ⟨fun r hr => h.1 r (List.mem_of_mem_drop (List.mem_of_mem_take hr)), fun i j hi hj => ?_⟩
  simp only [List.length_take, List.length_drop] at hi
  obtain ⟨v, h1, h0, h2⟩ := h.2 (l + i) j (by omega) hj
  refine ⟨v, ?_, h0, ?_⟩
  · rw [← h1]; congr 1; rw [Nat.add_mul]; omega
  · have : ((rows.drop l).take n).getD i [] = rows.getD (l + i) [] := by
      simp [List.getD_eq_getElem?_getD, List.getElem?_take, show i < n by omega, List.getElem?_drop]
    rw [this]; exact h2
section ops
variable {m : Bool} {H : World → Prop} {P : Program} {γ : Gh} {st : St} {a : Act} {w : World} (h : Rel γ st a w) {K : PV → Prop}
theorem bound_run {w : World} {i : Int} {y : Nat} {c : BoundsCode} (h1 : 0 ≤ i) (h2 : i ≤ y) : (Instr.sliceBound (.int .i64 i) y c).run P w = .ok i.toNat w := by
  simp [Instr.sliceBound, asIntOf, h1, h2]
include h
/-- The three bounds of a cut. -/
theorem bounds_run (w' : World) {b : Bool} {n cap : Nat} {lo hi : Option Operand} (hlo : optOk st.sl lo = true) (hhi : optOk st.sl hi = true) (hc : n ≤ cap)
    (h0 : 0 ≤ optI st.sl 0 lo) (h1 : optI st.sl 0 lo ≤ optI st.sl n hi) (h2 : optI st.sl n hi ≤ n) :
    (Instr.sliceBounds b n cap (lo.map a.eval) (hi.map a.eval) none).run P w' = .ok ((optI st.sl 0 lo).toNat, (optI st.sl n hi).toNat, cap) w' := by
  have hL : ∀ x, lo = some x → a.eval x = .int .i64 (optI st.sl 0 lo) := fun x e => by subst e; exact isI_inv (h.val x) hlo
  have hH : ∀ x, hi = some x → a.eval x = .int .i64 (optI st.sl n hi) := fun x e => by subst e; exact isI_inv (h.val x) hhi
  have hL0 : lo = none → optI st.sl 0 lo = 0 := by rintro rfl; rfl
  have hH0 : hi = none → optI st.sl n hi = n := by rintro rfl; rfl
  have e2 : ((optI st.sl n hi).toNat : Int) = optI st.sl n hi := Int.toNat_of_nonneg (by omega)
  generalize optI st.sl n hi = H at *
  generalize optI st.sl 0 lo = L at *
  have hb1 := fun c => bound_run (P := P) (w := w') (c := c) (i := H) (y := cap) (by omega) (by omega)
  have hb2 := fun c => bound_run (P := P) (w := w') (c := c) (i := L) (y := H.toNat) h0 (by omega)
  cases hi with
  | some y =>
    have hy := hH y rfl
    cases lo with
    | some x => simp only [Instr.sliceBounds, Option.map_some, hL x rfl, hy, Sem.run_bind, Sem.run_pure, Result.andThen_ok, hb1, hb2, Option.isSome_none]
    | none => simp only [Instr.sliceBounds, Option.map_some, Option.map_none, hL0 rfl, hy, Sem.run_bind, Sem.run_pure, Result.andThen_ok, hb1, Option.isSome_none]; rfl
  | none =>
    have := hH0 rfl
    subst this
    cases lo with
    | some x =>
      simp only [Int.toNat_natCast] at hb2
      simp only [Instr.sliceBounds, Option.map_some, Option.map_none, hL x rfl, Sem.run_bind, Sem.run_pure, Result.andThen_ok, hb2, Option.isSome_none, Int.toNat_natCast]
    | none => simp only [Instr.sliceBounds, Option.map_none, hL0 rfl, Sem.run_bind, Sem.run_pure, Result.andThen_ok, Option.isSome_none, Int.toNat_natCast]; rfl
theorem slice_sound {t : TypeId} {x : Operand} {lo hi : Option Operand} (hk : chk (optOk st.sl lo && optOk st.sl hi) (sliceV P t (val st.sl x) (optI st.sl 0 lo) (optI st.sl (topV P t (val st.sl x)) hi) K)) :
    Gives H P γ w st.sl a.tmps (Instr.sliceAt t (a.eval x) (lo.map a.eval) (hi.map a.eval) none) K := by
  obtain ⟨h0, hk⟩ := chk_iff.mp hk
  simp at h0
  have hx := h.val x
  unfold sliceV topV at hk
  split at hk
  · rename_i hu
    simp only [hu] at hk
    obtain ⟨h1, hk⟩ := chk_iff.mp hk
    simp at h1
    obtain ⟨hs, h2, h3, h4⟩ := h1
    rw [isS_inv hx hs]
    refine gives_rep hk (fun w' hw' => ?_) (.str _)
    simp only [Instr.sliceAt, Sem.run_bind, run_und w' hu, Result.andThen_ok, Instr.slice, Option.isSome_none, Bool.false_eq_true, if_false, Sem.run_pure, bounds_run (P := P) h w' h0.1 h0.2 (Nat.le_refl _) h2 h3 h4]
  · rename_i e hu
    simp only [hu] at hk
    split at hk
    · rename_i k hz
      obtain ⟨h1, hk⟩ := chk_iff.mp hk
      simp at h1
      obtain ⟨hs, hro, h2, h3, h4⟩ := h1
      rcases isL_inv hx hs with ⟨h5, h6⟩ | ⟨A, c, k', h6, h7, h8, h9⟩
      · rw [h5] at hk h3 h4
        rw [h6]
        refine gives_rep hk (fun w' hw' => ?_) (v := .slice none 0 0) ?_
        · have := bounds_run (P := P) (b := true) (n := 0) (cap := 0) h w' h0.1 h0.2 (Nat.le_refl _) h2 (by simpa using h3) (by simpa using h4)
          simp only [Instr.sliceAt, Sem.run_bind, run_und w' hu, Result.andThen_ok, Instr.slice, this, run_szT w' hz, Sem.run_pure]
          simp at h3 h4
          have e1 : (optI st.sl 0 hi).toNat = 0 := by omega
          have e2 : (optI st.sl 0 lo).toNat = 0 := by omega
          simp [e1, e2]
        · simp; exact .nil
      · rw [h6]
        have hb := fun w' => bounds_run (P := P) (b := true) (cap := c) h w' h0.1 h0.2 h8 h2 h3 h4
        refine gives_rep hk (v := .slice (some (if c = (optI st.sl 0 lo).toNat then A else A.add ((optI st.sl 0 lo).toNat * k))) ((optI st.sl (val st.sl x).rows.length hi).toNat - (optI st.sl 0 lo).toNat) (c - (optI st.sl 0 lo).toNat)) (fun w' hw' => ?_) ?_
        · simp only [Instr.sliceAt, Sem.run_bind, run_und w' hu, Result.andThen_ok, Instr.slice, hb w', run_szT w' hz, Sem.run_pure]
          split <;> rfl
        · generalize optI st.sl (val st.sl x).rows.length hi = H at *
          generalize optI st.sl 0 lo = L at *
          have hr := (h9.cast hro).cut (l := L.toNat) (n := H.toNat - L.toNat)
          have hlen : (((val st.sl x).rows.drop L.toNat).take (H.toNat - L.toNat)).length = H.toNat - L.toNat := by simp; omega
          by_cases hc : c = L.toNat
          · have : ((val st.sl x).rows.drop L.toNat).take (H.toNat - L.toNat) = [] := by
              apply List.eq_nil_of_length_eq_zero; rw [hlen]; omega
            rw [if_pos hc, this, show H.toNat - L.toNat = 0 by omega]
            exact RowsAt.rep (γ := γ) (A := A) (rows := []) (k := k) ⟨by simp, by simp⟩ (fun h => absurd rfl h) (by simp)
          · rw [if_neg hc]
            by_cases hz0 : (val st.sl x).rows = []
            · have e : ((val st.sl x).rows.drop L.toNat).take (H.toNat - L.toNat) = [] := by rw [hz0]; simp
              rw [e, ← hlen, e]
              exact RowsAt.rep (γ := γ) (rows := []) (k := k) ⟨by simp, by simp⟩ (fun h => absurd rfl h) (by simp)
            rw [addr_add _ _ (h7 hz0)]
            have := RowsAt.rep (A := ⟨A.block, A.off + L.toNat * k, none⟩) (c := c - L.toNat) hr (fun _ => rfl) (by rw [hlen]; omega)
            rw [hlen] at this
            exact this
    · exact hk.elim
  · exact hk.elim
theorem index_sound {t : TypeId} {x i : Operand} (hk : pureW P st.sl (osg m st) t (.indexAddr t x i) K) : Gives H P γ w st.sl a.tmps (Instr.indexAt t (a.eval x) (a.eval i)) K := by
  have hx := h.val x
  have hi := h.val i
  simp only [pureW] at hk
  split at hk
  · rename_i e he
    split at hk
    · rename_i k hz
      obtain ⟨h1, hk⟩ := chk_iff.mp hk
      simp at h1
      obtain ⟨hl, hro, hI, h2, h3⟩ := h1
      have hu : P.underlying t = some (.slice e) := by
        unfold elemT at he; split at he <;> simp at he; subst he; assumption
      rw [isI_inv hi hI]
      generalize (val st.sl i).toI = n at *
      rcases isL_inv hx hl with ⟨h5, h6⟩ | ⟨A, c, k', h6, h7, h8, h9⟩
      · rw [h5] at h3; simp at h3; omega
      · rw [h6]
        have hr := h9.cast hro
        have h7 := h7 (by intro e; rw [e] at h3; simp at h3; omega)
        refine gives_rep hk (v := .pointer (some ⟨A.block, A.off + n.toNat * k + 0, none⟩)) (fun w' hw' => ?_) (Rep.eaddr_mk fun j hj => ?_)
        · simp [Instr.indexAt, asIntOf, run_und w' hu, h2, h3, run_szT w' hz, addr_add A _ h7]
        · have hn : n.toNat < (val st.sl x).rows.length := by omega
          have hlen : (rowAt (val st.sl x).rows n).length = k := by
            refine hr.1 _ ?_
            simp only [rowAt, List.getD_eq_getElem?_getD, List.getElem?_eq_getElem hn, Option.getD_some]
            exact List.getElem_mem hn
          obtain ⟨v, hv, _, hr2⟩ := hr.2 n.toNat j hn (by omega)
          exact ⟨v, by rw [← hv, Nat.add_assoc], hr2⟩
    · exact hk.elim
  · exact hk.elim
theorem byte_sound {t t0 : TypeId} {x i : Operand} (hk : pureW P st.sl (osg m st) t0 (.index t x i) K) : Gives H P γ w st.sl a.tmps (Instr.index t (a.eval x) (a.eval i)) K := by
  have hx := h.val x
  have hi := h.val i
  simp only [pureW] at hk
  split at hk
  · rename_i hu
    obtain ⟨h1, hk⟩ := chk_iff.mp hk
    simp at h1
    obtain ⟨hl, hI, h2, h3⟩ := h1
    rw [isI_inv hi hI, isS_inv hx hl]
    generalize (val st.sl i).toI = n at *
    generalize (val st.sl x).toS = s at *
    refine gives_rep hk (fun w' hw' => ?_) (.int _ _)
    have hn : n.toNat < s.size := by omega
    have e : s[n.toNat]? = some (s.data.getD n.toNat 0) := by
      have h1 : n.toNat < s.data.size := hn
      rw [getElem?_pos s n.toNat hn]
      rw [ByteArray.getElem_eq_getElem_data, Array.getD_eq_getD_getElem?, Array.getElem?_eq_getElem h1, Option.getD_some]
    simp [Instr.index, asIntOf, run_und w' hu, h2, e, byteAt]
  · exact hk.elim
theorem addr_sound {t t0 : TypeId} {x : Operand} {k : Nat} (hk : pureW P st.sl (osg m st) t0 (.fieldAddr t x k) K) : Gives H P γ w st.sl a.tmps (Instr.fieldAt t (a.eval x) k) K := by
  have hx := h.rawS x
  simp only [pureW] at hk
  split at hk
  · rename_i off ft hf
    split at hk
    · rename_i n hz
      have hfs : ∃ (fs : Array Field) (f : Field), P.underlying t = some (.struct fs) ∧ fs[k]? = some f ∧ f.offset = off ∧ f.type = ft := by
        unfold fieldT at hf
        split at hf
        · rename_i fs hu
          split at hf
          · rename_i f hf'
            simp at hf
            exact ⟨fs, f, hu, hf', hf.1, hf.2⟩
          · simp at hf
        · simp at hf
      obtain ⟨fs, f, hu, hf1, rfl, rfl⟩ := hfs
      have hrun : ∀ b o (w' : World), H w' → (Instr.fieldAt t (.pointer (some ⟨b, o, none⟩)) k).run P w' = .ok (.pointer (some ⟨b, o + f.offset, none⟩)) w' := by
        intro b o w' _
        simp [Instr.fieldAt, run_und w' hu, hf1, Instr.sureAddr, fieldPlace, run_szT w' hz, add_none]
      generalize ha : a.eval x = va at *
      cases hr : Ev.raw st.sl x with
      | box cells =>
        rw [hr] at hk hx
        cases x with
        | tmp s =>
          simp only [slotOf, addrV] at hk
          simp only [Ev.raw] at hr
          obtain ⟨b, h1, h2⟩ := hx
          subst h1
          refine ⟨_, _, hk, hrun b 0, rfl, fun i _ => ⟨b, ?_, by simp⟩⟩
          simpa [Act.eval] using ha
        | const v => simp [slotOf, addrV] at hk
        | func v => simp [slotOf, addrV] at hk
        | global v => simp [slotOf, addrV] at hk
      | baddr s o =>
        rw [hr] at hk hx
        simp only [addrV] at hk
        split at hk
        · rename_i cells hc
          obtain ⟨b, h1, h2⟩ := hx ⟨cells, hc⟩
          subst h2
          exact ⟨_, _, hk, hrun b o, rfl, fun i _ => ⟨b, h1, rfl⟩⟩
        · exact hk.elim
      | eaddr cells o =>
        rw [hr] at hk hx
        obtain ⟨b, o', h1, h2⟩ := Rep.eaddr_inv hx
        subst h1
        refine gives_rep hk (hrun b _) ?_
        rw [Nat.add_assoc]
        exact Rep.eaddr_mk h2
      | ptr i o =>
        rw [hr] at hk hx
        cases hx with
        | ptr _ _ b hb => exact gives_rep hk (hrun b o) (.ptr _ _ b hb)
      | int k n => rw [hr] at hk; exact hk.elim
      | bool b => rw [hr] at hk; exact hk.elim
      | str s => rw [hr] at hk; exact hk.elim
      | list o r => rw [hr] at hk; exact hk.elim
      | agg cs => rw [hr] at hk; exact hk.elim
      | tup cs => rw [hr] at hk; exact hk.elim
      | nilp => rw [hr] at hk; exact hk.elim
      | fn f c d => rw [hr] at hk; exact hk.elim
      | iface t v => rw [hr] at hk; exact hk.elim
      | skip => rw [hr] at hk; exact hk.elim
      | undef => rw [hr] at hk; exact hk.elim
    · exact hk.elim
  · exact hk.elim
end ops
end Go.Ev
namespace Go.Ev
open PV
theorem fold_cells (off : Nat) : ∀ (l : List Value) (n : Nat) (arr : Array Value), off + n + l.length ≤ arr.size →
    ((l.zipIdx n).foldl (fun cs (x : Value × Nat) => cs.setIfInBounds (off + x.2) x.1) arr).size = arr.size ∧
    ∀ j, ((l.zipIdx n).foldl (fun cs (x : Value × Nat) => cs.setIfInBounds (off + x.2) x.1) arr).getD j Go.undef = if off + n ≤ j ∧ j < off + n + l.length then l.getD (j - (off + n)) Go.undef else arr.getD j Go.undef
  | [], n, arr, _ => by
    refine ⟨rfl, fun j => ?_⟩
    rw [if_neg (by simp)]; rfl
  | v :: l, n, arr, h => by
    simp only [List.length_cons] at h
    have ih := fold_cells off l (n + 1) (arr.setIfInBounds (off + n) v) (by simp; omega)
    simp only [List.zipIdx_cons, List.foldl_cons]
    refine ⟨by rw [ih.1]; simp, fun j => ?_⟩
    rw [ih.2 j, getD_setA]
    by_cases h1 : j = off + n
    · subst h1
      rw [if_neg (by omega), if_pos (by omega), if_pos (by simp)]
      simp
    · by_cases h2 : off + (n + 1) ≤ j ∧ j < off + (n + 1) + l.length
      · rw [if_pos h2, if_pos (by simp; omega)]
        rw [show j - (off + n) = (j - (off + (n + 1))) + 1 by omega]
        simp
      · rw [if_neg h2, if_neg (by simp [h1]), if_neg (by simp; omega)]
theorem splice_length (cs vs : List PV) (off : Nat) (h : off + vs.length ≤ cs.length) : (splice cs off vs).length = cs.length := by
  simp [splice]; omega
theorem splice_getD (cs vs : List PV) (off j : Nat) (h : off + vs.length ≤ cs.length) : (splice cs off vs).getD j .undef = if off ≤ j ∧ j < off + vs.length then vs.getD (j - off) .undef else cs.getD j .undef := by
  have h0 : (cs.take off).length = off := by simp; omega
  simp only [splice, List.getD_eq_getElem?_getD]
  by_cases h1 : j < off
  · rw [if_neg (by omega), List.append_assoc, List.getElem?_append_left (by omega), List.getElem?_take, if_pos h1]
  · by_cases h2 : j < off + vs.length
    · rw [if_pos (by omega), List.append_assoc, List.getElem?_append_right (by omega), h0, List.getElem?_append_left (by omega)]
    · rw [if_neg (by omega), List.append_assoc, List.getElem?_append_right (by omega), h0, List.getElem?_append_right (by omega), List.getElem?_drop]
      congr 2; omega
theorem cellsAs_rep {P : Program} {I : Nat → Nat → Option Value} {ob : List Nat} {t : TypeId} {p : PV} {v : Value} {K : List PV → Prop} (h : Rep I ob p v) (hk : cellsAs P t p K) :
    ∃ vs n, K vs ∧ szT P t = some n ∧ vs.length = n ∧ v.cells.size = n ∧ vs.all isCell = true ∧ ∀ j, j < n → Rep I ob (vs.getD j .undef) (v.cells.getD j Go.undef) := by
  unfold cellsAs at hk
  split at hk
  · rename_i n hz ha
    obtain ⟨h1, hk⟩ := chk_iff.mp hk
    simp only [Bool.and_eq_true, beq_iff_eq] at h1
    obtain ⟨vs, rfl, h2, h3⟩ := isAgg_inv h h1.1
    exact ⟨_, n, hk, hz, h1.2.1, by simp only [Value.cells]; omega, h1.2.2, fun j hj => h3 j (by omega)⟩
  · rename_i n hz ha
    obtain ⟨h1, hk'⟩ := chk_iff.mp hk
    clear hk
    simp only [Bool.and_eq_true, beq_iff_eq] at h1
    obtain ⟨h1, rfl⟩ := h1
    have hc : v.cells = #[v] := by
      cases h <;> first | rfl | simp [isCell] at h1
    refine ⟨_, 1, hk', hz, rfl, by rw [hc]; rfl, by simp [h1], fun j hj => ?_⟩
    have : j = 0 := by omega
    subst this
    rw [hc]; exact h
  · exact hk.elim
section ops
variable {m : Bool} {H : World → Prop} {P : Program} {γ : Gh} {st : St} {a : Act} {w : World} (h : Rel γ st a w) {K : PV → Prop}
include h
theorem fill_sound {pl : Nat → Option (Nat × TypeId)} {place : Nat → Option (Nat × Nat)} (hpl : ∀ i off t n, pl i = some (off, t) → szT P t = some n → place i = some (off, n)) {K : List PV → Prop} :
    ∀ (ps : List (Nat × Operand)) (cs : List PV) (arr : Array Value), cs.length = arr.size → (∀ j, j < cs.length → NilAt γ (cs.getD j .undef) (arr.getD j Go.undef)) → fillV P pl st.sl K cs ps →
      ∃ cs' arr', K cs' ∧ Instr.fill place arr (ps.map fun x => (x.1, a.eval x.2)) = some arr' ∧ cs'.length = arr'.size ∧ cs'.length = cs.length ∧ ∀ j, j < cs'.length → NilAt γ (cs'.getD j .undef) (arr'.getD j Go.undef)
  | [], cs, arr, hl, hr, hk => ⟨cs, arr, hk, rfl, hl, rfl, hr⟩
  | (i, x) :: ps, cs, arr, hl, hr, hk => by
    simp only [fillV] at hk
    split at hk
    · exact hk.elim
    · rename_i off t hp
      obtain ⟨vs, n, hk, hz, h1, h2, h3, h4⟩ := cellsAs_rep (h.val x) hk
      obtain ⟨h5, hk⟩ := chk_iff.mp hk
      simp at h5
      have hf := fold_cells off (a.eval x).cells.toList 0 arr (by simp; omega)
      simp only [Array.length_toList, Nat.add_zero] at hf
      have ih := fill_sound hpl ps (splice cs off vs) (((a.eval x).cells.zipIdx).foldl (fun cs (x : Value × Nat) => cs.setIfInBounds (off + x.2) x.1) arr)
        (by rw [splice_length _ _ _ h5]; rw [← Array.foldl_toList, Array.toList_zipIdx]; rw [hf.1]; exact hl) (fun j hj => by
          rw [splice_length _ _ _ h5] at hj
          rw [splice_getD _ _ _ _ h5, ← Array.foldl_toList, Array.toList_zipIdx, hf.2 j, h1, h2]
          by_cases hjj : off ≤ j ∧ j < off + n
          · rw [if_pos hjj, if_pos hjj]
            right
            have := h4 (j - off) (by omega)
            simpa [List.getD_eq_getElem?_getD, Array.getD_eq_getD_getElem?] using this
          · rw [if_neg hjj, if_neg hjj]
            exact hr j hj) hk
      obtain ⟨cs', arr', k1, k2, k3, k4, k5⟩ := ih
      refine ⟨cs', arr', k1, ?_, k3, by rw [k4, splice_length _ _ _ h5], k5⟩
      simp only [List.map_cons, Instr.fill, hpl i off t n hp hz]
      rw [if_neg (by simp; omega)]
      exact k2
omit h in
theorem zero_nil {t : TypeId} {z : List PV} (hz : zeroT P t = some z) : ∃ v, (zeroValue t).run P w = .ok v w ∧ z.length = v.cells.size ∧ (∀ j, j < z.length → NilAt γ (z.getD j .undef) (v.cells.getD j Go.undef)) ∧ ∃ i, P.info? t = some i ∧ i.zero = some v := by
  unfold zeroT at hz
  split at hz
  · rename_i i hi
    split at hz
    · rename_i v hv
      simp at hz; subst hz
      refine ⟨v, by simp [zeroValue, typeInfo, hi, hv], by simp, fun j hj => ?_, i, hi, hv⟩
      simp at hj
      rw [getD_map' absC _ j Go.undef .undef (by simpa using hj)]
      have : v.cells.toList.getD j Go.undef = v.cells.getD j Go.undef := by simp [List.getD_eq_getElem?_getD, Array.getD_eq_getD_getElem?]
      rw [this]; exact absC_nil _
    · simp at hz
  · simp at hz
theorem build_sound {t t0 : TypeId} {ps : Array (Nat × Operand)} (hk : pureW P st.sl (osg m st) t0 (.build t ps) K) : Gives H P γ w st.sl a.tmps (Instr.build t (ps.map fun (i, x) => (i, a.eval x))) K := by
  simp only [pureW] at hk
  split at hk
  · rename_i z fs hz hu
    obtain ⟨h1, hk⟩ := chk_iff.mp hk
    obtain ⟨v, _, h2, h3, i', hi', hzv'⟩ := zero_nil (P := P) (γ := γ) (w := w) hz
    have hv : ∀ w : World, (zeroValue t).run P w = .ok v w := fun w => by simp [zeroValue, typeInfo, hi', hzv']
    have hplaces : ∀ (w : World) (l : List Field), (l.all fun f => (szT P f.type).isSome) = true → (l.mapM (fun f : Field => (do pure (f.offset, ← sizeOf f.type) : Sem (Nat × Nat)))).run P w = .ok (l.map fun f => (f.offset, (szT P f.type).getD 0)) w := by
      intro w l
      induction l with
      | nil => intro _; rfl
      | cons f l ih =>
        intro hl
        simp only [List.all_cons, Bool.and_eq_true] at hl
        obtain ⟨n, hn⟩ := Option.isSome_iff_exists.mp hl.1
        simp only [List.mapM_cons, Sem.run_bind, run_szT w hn, Result.andThen_ok, Sem.run_pure, ih hl.2, List.map_cons, hn, Option.getD_some]
    have hp2 : ∀ w : World, (fs.mapM (fun f : Field => (do pure (f.offset, ← sizeOf f.type) : Sem (Nat × Nat)))).run P w = .ok (fs.map fun f => (f.offset, (szT P f.type).getD 0)) w := by
      intro w
      have := hplaces w fs.toList h1
      rw [Array.mapM_eq_mapM_toList]
      simp only [Sem.run_map, this, Result.andThen_ok]
      congr 1
      apply Array.ext'
      simp
    have hf := fill_sound (P := P) (pl := fieldT P t) (place := fun i => (fs.map fun f => (f.offset, (szT P f.type).getD 0))[i]?) h (fun i off ty n hp hn => by
      unfold fieldT at hp
      rw [hu] at hp
      simp only at hp
      split at hp
      · rename_i f hf
        simp at hp
        obtain ⟨rfl, rfl⟩ := hp
        simp [hf, hn]
      · simp at hp) ps.toList z v.cells h2 h3 hk
    obtain ⟨cs', arr', k1, k2, k3, k4, k5⟩ := hf
    refine ⟨_, .agg arr', k1, fun w' hw' => ?_, rfl, fun i => ⟨arr', rfl, k3, k5⟩⟩
    simp only [Instr.build, Sem.run_bind, hv w', Result.andThen_ok, run_und w' hu, hp2 w']
    have : (ps.map fun x => (x.1, a.eval x.2)).toList = ps.toList.map fun x => (x.1, a.eval x.2) := by simp
    rw [this, k2]; rfl
  · exact hk.elim
omit h in
theorem part_sound {ft : TypeId} {off : Nat} {p : PV} {vs : Array Value} (hl : p.aggC.length = vs.size) (hr : ∀ j, j < p.aggC.length → Rep γ.I γ.ob (p.aggC.getD j .undef) (vs.getD j Go.undef))
    (hk : match szT P ft, aggT P ft with
      | some z, some true => chk (p.isAgg && decide (off + z ≤ p.aggC.length)) (K (.agg ((p.aggC.drop off).take z)))
      | some 1, some false => chk (p.isAgg && decide (off + 1 ≤ p.aggC.length)) (K (p.aggC.getD off .undef))
      | _, _ => False) : Gives H P γ w st.sl a.tmps (part ft vs off) K := by
  split at hk
  · rename_i z hz ha
    obtain ⟨h1, hk⟩ := chk_iff.mp hk
    simp at h1
    refine gives_rep hk (v := .agg (vs.extract off (off + z))) (fun w' hw' => ?_) ?_
    · simp [part, run_aggT w' ha, run_szT w' hz]
    · refine .agg _ _ (by simp; omega) fun j hj => ?_
      simp at hj
      have hj' : j < z := by omega
      have := hr (off + j) (by omega)
      have e1 : ((p.aggC.drop off).take z).getD j .undef = p.aggC.getD (off + j) .undef := by
        simp [List.getD_eq_getElem?_getD, List.getElem?_take, hj', List.getElem?_drop]
      have e2 : (vs.extract off (off + z)).getD j Go.undef = vs.getD (off + j) Go.undef := by
        simp only [Array.getD_eq_getD_getElem?, Array.getElem?_extract]
        rw [if_pos (by omega)]
      rw [e1, e2]; exact this
  · rename_i hz ha
    obtain ⟨h1, hk⟩ := chk_iff.mp hk
    simp at h1
    refine gives_rep hk (v := vs.getD off Go.undef) (fun w' hw' => ?_) (hr off (by omega))
    have : vs[off]? = some (vs.getD off Go.undef) := by
      have : off < vs.size := by omega
      simp [Array.getD_eq_getD_getElem?, this]
    simp only [part, Sem.run_bind, run_aggT w' ha, Result.andThen_ok, Bool.false_eq_true, if_false, this, Sem.run_pure]
  · exact hk.elim
theorem field_sound {t t0 : TypeId} {x : Operand} {k : Nat} (hk : pureW P st.sl (osg m st) t0 (.field t x k) K) : Gives H P γ w st.sl a.tmps (Instr.field t (a.eval x) k) K := by
  have hx := h.val x
  simp only [pureW] at hk
  split at hk
  · rename_i off ft hf
    have hfs : ∃ (fs : Array Field) (f : Field), P.underlying t = some (.struct fs) ∧ fs[k]? = some f ∧ f.offset = off ∧ f.type = ft := by
      unfold fieldT at hf
      split at hf
      · rename_i fs hu
        split at hf
        · rename_i f hf'
          simp at hf
          exact ⟨fs, f, hu, hf', hf.1, hf.2⟩
        · simp at hf
      · simp at hf
    obtain ⟨fs, f, hu, hf1, rfl, rfl⟩ := hfs
    have hagg : (val st.sl x).isAgg = true := by
      split at hk
      · have := (chk_iff.mp hk).1; simp at this; exact this.1
      · have := (chk_iff.mp hk).1; simp at this; exact this.1
      · exact hk.elim
    obtain ⟨vs, hv, hl, hr⟩ := isAgg_inv hx hagg
    obtain ⟨p, v, k1, k2, k3⟩ := part_sound (H := H) (P := P) (K := K) (st := st) (a := a) (w := w) hl hr hk
    refine ⟨p, v, k1, fun w' hw' => ?_, k3⟩
    simp only [Instr.field, Sem.run_bind, run_und w' hu, Result.andThen_ok, hf1, hv, asAgg, Sem.run_pure, k2 w' hw']
  · exact hk.elim
theorem len_sound {t t0 : TypeId} {x : Operand} (hk : lenV P t (val st.sl x) K) : Gives H P γ w st.sl a.tmps (Builtin.len_ #[t] t0 #[a.eval x]) K := by
  have hx := h.val x
  unfold lenV at hk
  split at hk
  · rename_i hu
    obtain ⟨h1, hk⟩ := chk_iff.mp hk
    rw [isS_inv hx h1]
    exact gives_rep hk (fun w' hw' => by simp [Builtin.len_, run_und w' hu, goInt]) (.int _ _)
  · rename_i e hu
    obtain ⟨h1, hk⟩ := chk_iff.mp hk
    rcases isL_inv hx h1 with ⟨h2, h3⟩ | ⟨A, c, k, h3, _⟩
    · rw [h2] at hk; rw [h3]
      exact gives_rep hk (fun w' hw' => by simp [Builtin.len_, run_und w' hu, goInt]) (.int _ _)
    · rw [h3]
      exact gives_rep hk (fun w' hw' => by simp [Builtin.len_, run_und w' hu, goInt]) (.int _ _)
  · exact hk.elim
end ops
/-- An operation that only gives a value. -/
theorem pure_sound (m : Bool) {P : Program} {γ : Gh} {st : St} {a : Act} {w : World} (h : Rel γ st a w) {K : PV → Prop} (o : Oper) (hk : pureW P st.sl (osg m st) o.type o.op K) :
    ∃ p v, K p ∧ (∀ w', (isLoadOp o.op = true → Held m γ w w') → (execOp a.eval o).run P w' = .ok (.value v) w') ∧ p.quiet = true ∧ ∀ i, SlotAt γ w st.sl a.tmps i p v := by
  have key : ∀ (s : Sem Value), (execOp a.eval o = do pure (.value (← s))) → Gives (fun w' => isLoadOp o.op = true → Held m γ w w') P γ w st.sl a.tmps s K → ∃ p v, K p ∧ (∀ w', (isLoadOp o.op = true → Held m γ w w') → (execOp a.eval o).run P w' = .ok (.value v) w') ∧ p.quiet = true ∧ ∀ i, SlotAt γ w st.sl a.tmps i p v := by
    rintro s e ⟨p, v, h1, h2, h3⟩
    exact ⟨p, v, h1, fun w' hw' => by rw [e]; simp [h2 w' hw'], h3⟩
  obtain ⟨dst, op, type, pos, after, guard⟩ := o
  simp only at hk key ⊢
  cases op with
  | move x => exact ⟨_, _, hk, fun _ _ => rfl, (h.val x).isQuiet, fun _ => (h.val x).slot⟩
  | pick c x y =>
    refine key (do pure (if ← asBool (a.eval c) then a.eval x else a.eval y)) (by simp [execOp]) ?_
    have hc := h.val c
    have hx := h.val x
    have hy := h.val y
    simp only [pureW, pickV] at hk
    split at hk
    · obtain ⟨h1, hk⟩ := chk_iff.mp hk
      simp only [Bool.and_eq_true] at h1
      rw [isB_inv hc h1.1]
      cases hb : (val st.sl c).toB with
      | true =>
        rw [hb] at h1 hk
        exact gives_rep hk (fun w' hw' => by simp [asBool]; exact isB_inv hx h1.2) (.bool _)
      | false =>
        rw [hb] at h1 hk
        exact gives_rep hk (fun w' hw' => by simp [asBool]; exact isB_inv hy h1.2) (.bool _)
    · obtain ⟨h1, hk⟩ := chk_iff.mp hk
      rw [isB_inv hc h1]
      cases hb : (val st.sl c).toB with
      | true => rw [hb] at hk; exact gives_rep hk (fun w' hw' => by simp [asBool]) hx
      | false => rw [hb] at hk; exact gives_rep hk (fun w' hw' => by simp [asBool]) hy
  | load t x => exact key _ rfl (load_sound h (fun w' hw' => hw' rfl) hk)
  | nilCheck x =>
    simp only [pureW] at hk
    obtain ⟨h1, hk⟩ := chk_iff.mp hk
    have hx := h.rawS x
    cases hr : Ev.raw st.sl x with
    | ptr i off =>
      rw [hr] at hx hk
      have hx' : Rep γ.I γ.ob (.ptr i off) (a.eval x) := hx
      cases hv : a.eval x with
      | pointer p =>
        rw [hv] at hx'
        cases hx' with
        | ptr _ _ b hb => exact ⟨_, _, hk, fun w' hw' => by simp [execOp, hv], rfl, fun _ => Rep.slot (.ptr _ _ b hb)⟩
      | _ => rw [hv] at hx'; cases hx'
    | eaddr cells off =>
      rw [hr] at hx hk
      have hx' : Rep γ.I γ.ob (.eaddr cells off) (a.eval x) := hx
      obtain ⟨b, o', h2, _⟩ := Rep.eaddr_inv hx'
      exact ⟨_, .pointer (some ⟨b, o' + off, none⟩), hk, fun w' hw' => by simp [execOp, h2], rfl, fun _ => by rw [← h2]; exact hx'.slot⟩
    | fn f c d =>
      rw [hr] at hx hk
      have hx' : Rep γ.I γ.ob (.fn f c d) (a.eval x) := hx
      cases hv : a.eval x with
      | func f' c' d' =>
        rw [hv] at hx'
        have hx2 := hx'
        cases hx' with
        | fn _ _ _ _ _ _ _ _ _ => exact ⟨_, _, hk, fun w' hw' => by simp [execOp, hv], rfl, fun _ => hx2.slot⟩
      | _ => rw [hv] at hx'; cases hx'
    | _ => rw [hr] at h1; simp [isFnOrPtr] at h1
  | binOp op t x y yt => exact key _ rfl (bin_sound h hk)
  | unOp op t x => exact key _ rfl (un_sound h hk)
  | convert t u x =>
    refine key _ rfl ?_
    have hx := h.val x
    simp only [pureW] at hk
    split at hk
    · rename_i k k' hu hu'
      obtain ⟨h1, hk⟩ := chk_iff.mp hk
      rw [isI_inv hx h1]
      exact gives_rep hk (fun w' hw' => by simp [convert, run_und w' hu, run_und w' hu', Conv.intToInt]) (.int _ _)
    · rename_i hu hu'
      obtain ⟨h1, hk⟩ := chk_iff.mp hk
      refine gives_rep hk (v := a.eval x) (fun w' hw' => ?_) hx
      rw [isS_inv hx h1]
      simp [convert, run_und w' hu, run_und w' hu']
    · exact hk.elim
  | slice t x lo hi mx =>
    cases mx with
    | none => exact key _ rfl (slice_sound h hk)
    | some m => exact hk.elim
  | fieldAddr t x k => exact key _ rfl (addr_sound (m := m) h hk)
  | field t x k => exact key _ rfl (field_sound (m := m) h hk)
  | indexAddr t x i => exact key _ rfl (index_sound (m := m) h hk)
  | index t x i => exact key _ rfl (byte_sound (m := m) h hk)
  | build t ps => exact key _ rfl (build_sound (m := m) h hk)
  | makeFunc f first caps =>
    cases f with
    | func f =>
      refine key _ rfl (gives_rep hk (fun _ _ => rfl) ?_)
      have hm : ∀ (xs : Array Operand) j, j < (xs.toList.map (val st.sl)).length → Rep γ.I γ.ob ((xs.toList.map (val st.sl)).getD j .undef) ((xs.map a.eval).getD j Go.undef) := by
        intro xs j hj
        simp at hj
        have e1 : (xs.toList.map (val st.sl)).getD j .undef = val st.sl xs[j] := by simp [List.getD_eq_getElem?_getD, hj]
        have e2 : (xs.map a.eval).getD j Go.undef = a.eval xs[j] := by simp [Array.getD_eq_getD_getElem?, hj]
        rw [e1, e2]
        exact h.val _
      exact .fn f _ _ _ _ (by simp) (by simp) (hm first) (hm caps)
    | _ => exact hk.elim
  | makeInterface t x =>
    refine key _ rfl ?_
    simp only [pureW] at hk
    split at hk
    · exact hk.elim
    · rename_i d hu hd
      refine gives_rep hk (v := .iface t (a.eval x)) (fun w' hw' => ?_) (.iface _ _ _ (h.val x))
      simp only [Instr.makeInterface, Sem.run_bind, run_und w' hd, Result.andThen_ok]
      rfl
    · exact hk.elim
  | extract x i =>
    refine key _ rfl ?_
    have hx := h.val x
    simp only [pureW, exV] at hk
    split at hk
    · rename_i vs hv
      obtain ⟨h1, hk⟩ := chk_iff.mp hk
      simp at h1
      rw [hv] at hx
      generalize a.eval x = va at *
      cases hx with
      | tup cs xs hl hr =>
        have hk := tyV_sound (hr i h1) hk
        refine gives_rep hk (fun w' hw' => ?_) (hr i h1)
        have : xs[i]? = some (xs.getD i Go.undef) := by
          have : i < xs.size := by omega
          simp [Array.getD_eq_getD_getElem?, this]
        simp only [Instr.extract]; rw [this]; rfl
    · exact hk.elim
  | call c =>
    obtain ⟨callee, args, argTypes⟩ := c
    cases callee with
    | builtin b =>
      cases b with
      | len =>
        simp only [pureW] at hk
        split at hk
        · rename_i t x ht hx
          obtain ⟨p, v, k1, k2, k3⟩ := len_sound (H := fun _ => True) (P := P) (t0 := type) h hk
          refine ⟨p, v, k1, fun w' hw' => ?_, k3⟩
          have e : (Builtin.len_ argTypes type (args.map a.eval)) = Builtin.len_ #[t] type #[a.eval x] := by
            simp [Builtin.len_, ht, hx]
          simp only [execOp, resolve, Sem.run_bind, Sem.run_pure, Result.andThen_ok, invoke, builtin, e, k2 w' trivial]
        · exact hk.elim
      | max =>
        simp only [pureW] at hk
        split at hk
        · rename_i x y hxy
          obtain ⟨h1, hk⟩ := chk_iff.mp hk
          simp only [Bool.and_eq_true] at h1
          have hx := isI_inv (h.val x) h1.1
          have hy := isI_inv (h.val y) h1.2
          have e : args.map a.eval = #[a.eval x, a.eval y] := by apply Array.ext'; simp [hxy]
          refine ⟨_, _, hk, fun w' hw' => ?_, rfl, fun _ => Rep.slot (.int _ _)⟩
          simp only [execOp, resolve, Sem.run_bind, Sem.run_pure, Result.andThen_ok, invoke, builtin, e, hx, hy, run_max_int2]
          congr 2
          by_cases hc : (val st.sl y).toI > (val st.sl x).toI <;> simp [hc, bcond]
        · exact hk.elim
      | min =>
        simp only [pureW] at hk
        split at hk
        · rename_i x y hxy
          obtain ⟨h1, hk⟩ := chk_iff.mp hk
          simp only [Bool.and_eq_true] at h1
          have hx := isI_inv (h.val x) h1.1
          have hy := isI_inv (h.val y) h1.2
          have e : args.map a.eval = #[a.eval x, a.eval y] := by apply Array.ext'; simp [hxy]
          refine ⟨_, _, hk, fun w' hw' => ?_, rfl, fun _ => Rep.slot (.int _ _)⟩
          simp only [execOp, resolve, Sem.run_bind, Sem.run_pure, Result.andThen_ok, invoke, builtin, e, hx, hy, run_min_int2]
          congr 2
          by_cases hc : (val st.sl y).toI < (val st.sl x).toI <;> simp [hc, bcond]
        · exact hk.elim
      | _ => exact hk.elim
    | _ => exact hk.elim
  | _ => exact hk.elim
end Go.Ev
namespace Go.Ev
open PV
/-- A block's holder is another. -/
def mv (γ : Gh) (B : Option Nat) (t : Option Tag) : Gh := { γ with G := fun b => if B = some b then t else γ.G b }
theorem mv_mv (γ : Gh) (B : Option Nat) (t t' : Option Tag) : mv (mv γ B t) B t' = mv γ B t' := by
  simp only [mv]
  congr 1
  funext b
  split <;> rfl
theorem mv_none (γ : Gh) (t : Option Tag) : mv γ none t = γ := by simp [mv]
theorem OwnAt.block {γ : Gh} {w : World} {t : Option Tag} {rows : List (List PV)} {v : Value} (h : OwnAt γ w t rows v) :
    ∃ B : Option Nat, (∀ b, B = some b → γ.G b = t ∧ b < w.heap.size) ∧ ∀ t', OwnAt (mv γ B t') w t' rows v := by
  rcases h with h | ⟨hr, A, c, k, arr, el, rfl, h2, h3, h4, h5, h6, h7, h8⟩
  · exact ⟨none, by simp, fun t' => .inl h⟩
  · exact ⟨some A.block, fun b e => by injection e with e; subst e; exact ⟨h5, (Array.getElem?_eq_some_iff.1 h6).1⟩, fun t' => .inr ⟨hr, A, c, k, arr, el, rfl, h2, h3, h4, by simp [mv], h6, h7, h8⟩⟩
theorem ext_mv {γ : Gh} {w : World} {B : Option Nat} {t : Option Tag} (h : ∀ b, B = some b → ∃ t, γ.G b = some t ∧ t ≠ .out) : Ext γ w (mv γ B t) w :=
  ⟨Nat.le_refl _, .refl _, .refl _, rfl, ⟨rfl, rfl, rfl⟩, fun b hb hg => ⟨rfl, by
    simp only [mv]
    split
    · rename_i e
      obtain ⟨t, h1, h2⟩ := h b e
      rw [h1] at hg
      simp at hg
      exact (h2 hg).elim
    · rfl, fun _ => rfl⟩⟩
theorem same_mv {γ : Gh} {w : World} {B : Option Nat} {t' : Option Tag} {t : Tag} (h : ∀ b, B = some b → γ.G b ≠ some t) : Same γ w (mv γ B t') w t :=
  fun b hb => ⟨rfl, by simp only [mv]; rw [if_neg (fun e => h b e hb)]; exact hb, fun _ => rfl⟩
theorem objs_mv {γ : Gh} {w : World} {sg : List (List PV)} (h : Objs γ sg w) {B : Option Nat} {t' : Option Tag} (hB : ∀ b, B = some b → (∀ i, γ.G b ≠ some (.ob i)) ∧ (∀ i j, γ.G b ≠ some (.oc i j)) ∧ b < w.heap.size) : Objs (mv γ B t') sg w :=
  Objs.keep (γ := γ) (w := w) (γ' := mv γ B t') (w' := w) (.refl _) rfl ⟨fun i => same_mv fun b e => (hB b e).1 i, fun i j => same_mv fun b e => (hB b e).2.1 i j⟩ h.imm (fun b t hb => by
    simp only [mv] at hb
    split at hb
    · rename_i e; exact (hB b e).2.2
    · exact h.inH b t hb) h
/-- A block that nobody holds gets a holder. -/
theorem Rel.tag {γ : Gh} {st : St} {a : Act} {w : World} (h : Rel γ st a w) {B : Option Nat} {t : Option Tag} (hB : ∀ b, B = some b → γ.G b = none ∧ b < w.heap.size) : Rel (mv γ B t) st a w := by
  have hS : ∀ t', Same γ w (mv γ B t) w t' := fun t' => same_mv fun b e => by rw [(hB b e).1]; simp
  refine ⟨objs_mv h.toObjs fun b e => by rw [(hB b e).1]; exact ⟨by simp, by simp, (hB b e).2⟩, h.size, h.defers, fun s hs => ?_⟩
  exact SlotAt.keep (γ := γ) (w := w) (w' := w) (γ' := mv γ B t) (.refl _) (.refl _) ⟨hS _, hS _, fun _ => hS _⟩ (fun s' _ _ => .refl _ _ _) (h.slots s hs)
/-- A step that leaves what a reader reads. -/
structure Mild (m : Bool) (γ : Gh) (w : World) (γ' : Gh) (w' : World) : Prop where
  leI : LeI γ.I γ'.I
  box : ∀ b t, γ.G b = some t → boxTag m t = true → γ'.G b = some t ∧ w'.heap[b]? = w.heap[b]?
theorem Mild.refl (m : Bool) (γ : Gh) (w : World) : Mild m γ w γ w := ⟨.refl _, fun _ _ h _ => ⟨h, rfl⟩⟩
theorem Mild.trans {m : Bool} {γ γ1 γ2 : Gh} {w w1 w2 : World} (h : Mild m γ w γ1 w1) (h' : Mild m γ1 w1 γ2 w2) : Mild m γ w γ2 w2 :=
  ⟨fun b o v hv => h'.leI _ _ _ (h.leI _ _ _ hv), fun b t hb ht => let ⟨h1, h2⟩ := h.box b t hb ht; let ⟨h3, h4⟩ := h'.box b t h1 ht; ⟨h3, h4.trans h2⟩⟩
theorem boxTag_true {m : Bool} {t : Tag} (h : boxTag m t = true) : boxTag true t = true := by cases t <;> simp [boxTag] at h ⊢
theorem Mild.weak {m : Bool} {γ γ' : Gh} {w w' : World} (h : Mild true γ w γ' w') : Mild m γ w γ' w' := ⟨h.leI, fun b t hb ht => h.box b t hb (boxTag_true ht)⟩
theorem Held.weak {m : Bool} {γ : Gh} {w w' : World} (h : Held true γ w w') : Held m γ w w' := ⟨h.imm, fun b t hb ht => h.box b t hb (boxTag_true ht)⟩
theorem Mild.held {m : Bool} {γ γ' : Gh} {w w' : World} {sg : List (List PV)} (h : Mild m γ w γ' w') (hO : Objs γ' sg w') : Held m γ w w' :=
  ⟨fun b o v hv => hO.imm _ _ _ (h.leI _ _ _ hv), fun b t hb ht => (h.box b t hb ht).2⟩
theorem Mild.heldTrans {m : Bool} {γ γ' : Gh} {w w' w2 : World} (h : Mild m γ w γ' w') (h2 : Held m γ' w' w2) : Held m γ w w2 :=
  ⟨fun b o v hv => h2.imm _ _ _ (h.leI _ _ _ hv), fun b t hb ht => let ⟨h3, h4⟩ := h.box b t hb ht; (h2.box b t h3 ht).trans h4⟩
theorem mild_mv {γ : Gh} {w : World} {B : Option Nat} {t' : Option Tag} (hB : ∀ b, B = some b → ∀ t, γ.G b = some t → boxTag true t = false) : Mild true γ w (mv γ B t') w :=
  ⟨.refl _, fun b t hb ht => ⟨by
    simp only [mv]
    rw [if_neg (fun e => by rw [hB b e t hb] at ht; cases ht)]
    exact hb, rfl⟩⟩
theorem act_same (a : Act) (s : Nat) : a.put (some s) (a.tmps.getD s Go.undef) = a := by
  obtain ⟨tm, d⟩ := a
  simp only [Act.put, Act.mk.injEq, and_true]
  apply Array.ext_getElem?
  intro i
  rw [Array.getElem?_setIfInBounds]
  by_cases e : s = i
  · subst e
    by_cases h : s < tm.size
    · simp [Array.getD_eq_getD_getElem?, h]
    · simp [Array.getElem?_eq_none (Nat.le_of_not_lt h), h]
  · simp [e]
/-- A slot loses its room. -/
theorem Rel.unslot {γ : Gh} {st : St} {a : Act} {w : World} (h : Rel γ st a w) {r : Nat} {rows : List (List PV)} (hr : st.sl.getD r .undef = .list true rows) :
    ∃ B : Option Nat, (∀ b, B = some b → γ.G b = some (.lv r) ∧ b < w.heap.size) ∧ Rel (mv γ B none) ⟨st.sl.set r (.list false rows), st.sg⟩ a w ∧ ∀ t, OwnAt (mv γ B t) w t rows (a.tmps.getD r Go.undef) := by
  have hlt : r < st.sl.length := by
    by_cases hlt : r < st.sl.length
    · exact hlt
    · simp [List.getD_eq_getElem?_getD, List.getElem?_eq_none (Nat.le_of_not_lt hlt)] at hr
  have hs := h.slots r hlt
  rw [hr] at hs
  obtain ⟨B, h1, h2⟩ := OwnAt.block hs
  refine ⟨B, h1, ?_, h2⟩
  have hS : ∀ t', t' ≠ .lv r → Same γ w (mv γ B none) w t' := fun t' hne => same_mv fun b e => by rw [(h1 b e).1]; intro e'; injection e' with e'; exact hne e'.symm
  have := Rel.set (γ := γ) (w := w) (γ' := mv γ B none) (w' := w) (sg' := st.sg) h (.refl _) (.refl _) (objs_mv h.toObjs fun b e => by rw [(h1 b e).1]; exact ⟨by simp, by simp, (h1 b e).2⟩) r (.list false rows) (a.tmps.getD r Go.undef)
    (fun s hne => ⟨hS _ (fun e => hne (by injection e)), hS _ (by simp), fun _ => hS _ (by simp)⟩) (fun s' _ => BoxSame.put _ _ _ _ _ h.size (.inl rfl) s') (fun _ => Rep.slot (h2 none).rep)
  rw [act_same] at this
  exact this
/-- A slot takes a slice with its room. -/
theorem Rel.setOwn {γ : Gh} {st : St} {a : Act} {w : World} (h : Rel γ st a w) {d : Nat} {rows : List (List PV)} {v : Value} (hv : OwnAt γ w (some (.lv d)) rows v) :
    Rel γ ⟨st.sl.set d (.list true rows), st.sg⟩ (a.put (some d) v) w :=
  h.set (.refl _) (.refl _) h.toObjs d _ v (fun s _ => .refl _ _ _) (fun s' _ => BoxSame.put _ _ _ _ _ h.size (.inr ⟨_, rfl⟩) s') (fun _ => hv)
/-- The same with a block that nobody holds. -/
theorem Rel.setFree {γ : Gh} {st : St} {a : Act} {w : World} {B : Option Nat} (h : Rel (mv γ B none) st a w) (hB : ∀ b, B = some b → b < w.heap.size) {d : Option Tmp} {rows : List (List PV)} {v : Value}
    (hv : ∀ t, OwnAt (mv γ B t) w t rows v) : ∃ t, Rel (mv γ B t) ⟨setD st.sl d (.list true rows), st.sg⟩ (a.put d v) w := by
  cases d with
  | none => exact ⟨none, h⟩
  | some d =>
    refine ⟨some (.lv d), ?_⟩
    have := h.tag (B := B) (t := some (.lv d)) (fun b e => ⟨by simp [mv, e], hB b e⟩)
    rw [mv_mv] at this
    exact this.setOwn (hv _)
theorem absV_own {v : Value} {rows : List (List PV)} (h : absV v = .list true rows) : rows = [] ∧ Own0 v := by
  unfold absV at h
  split at h
  · simp at h
  · simp at h
  · unfold absC at h
    split at h <;> simp at h
    exact ⟨h, none, rfl, by simp⟩
theorem mval_quiet {γ : Gh} {w : World} {sl : List PV} {tm : Array Value} {s : Nat} {p : PV} {v : Value} (h : SlotAt γ w sl tm s p v) (hp : ∀ rows, p ≠ .list true rows) : Rep γ.I γ.ob (mval p) v := by
  have := SlotAt.strip h
  cases p <;> first | exact this | skip
  rename_i o r
  cases o with
  | false => exact h
  | true => exact (hp r rfl).elim
theorem set_self (sl : List PV) (r : Nat) : sl.set r (sl.getD r .undef) = sl := by
  apply List.ext_getElem?
  intro i
  rw [List.getElem?_set]
  by_cases h : r = i
  · subst h
    by_cases h2 : r < sl.length
    · simp [h2, List.getD_eq_getElem?_getD]
    · simp [h2, List.getElem?_eq_none (Nat.le_of_not_lt h2)]
  · simp [h]
theorem moved_same {sl : List PV} {x : Operand} (hp : ∀ rows, Ev.raw sl x ≠ .list true rows) : moved sl x = sl := by
  cases x with
  | tmp r =>
    have hp' : ∀ rows, sl.getD r .undef ≠ .list true rows := hp
    have : unown (sl.getD r .undef) = sl.getD r .undef := by
      generalize sl.getD r .undef = p at *
      cases p <;> first | rfl | skip
      rename_i o rows
      cases o with
      | false => rfl
      | true => exact (hp' rows rfl).elim
    simp only [moved, this, set_self]
  | _ => rfl
/-- A value that moves on with its room: before it is laid down. -/
theorem moved_sound {γ : Gh} {st : St} {a : Act} {w : World} (h : Rel γ st a w) {x : Operand} {rows : List (List PV)} (hx : Ev.raw st.sl x = .list true rows) :
    ∃ B : Option Nat, (∀ b, B = some b → (∃ r, γ.G b = some (.lv r)) ∧ b < w.heap.size) ∧ Rel (mv γ B none) ⟨moved st.sl x, st.sg⟩ a w ∧ ∀ t, OwnAt (mv γ B t) w t rows (a.eval x) := by
  cases x with
  | tmp r =>
    obtain ⟨B, h1, h2, h3⟩ := h.unslot hx
    refine ⟨B, fun b e => ⟨⟨r, (h1 b e).1⟩, (h1 b e).2⟩, ?_, h3⟩
    simp only [Ev.raw] at hx
    simp only [moved, hx, unown]
    exact h2
  | const v =>
    obtain ⟨rfl, h0⟩ := absV_own hx
    exact ⟨none, by simp, by rw [mv_none]; exact h, fun t => .inl ⟨rfl, h0⟩⟩
  | func f => simp [Ev.raw] at hx
  | global g => simp [Ev.raw] at hx
theorem assign_sound {γ : Gh} {st : St} {a : Act} {w : World} (h : Rel γ st a w) (x : Operand) (d : Option Tmp) :
    ∃ γ', Rel γ' ⟨setD (moved st.sl x) d (mval (Ev.raw st.sl x)), st.sg⟩ (a.put d (a.eval x)) w ∧ Ext γ w γ' w ∧ Mild true γ w γ' w := by
  by_cases hp : ∃ rows, Ev.raw st.sl x = .list true rows
  · obtain ⟨rows, hp⟩ := hp
    obtain ⟨B, h1, h2, h3⟩ := moved_sound h hp
    obtain ⟨t, h4⟩ := Rel.setFree h2 (fun b e => (h1 b e).2) (d := d) h3
    rw [hp]
    exact ⟨_, h4, ext_mv fun b e => let ⟨r, hr⟩ := (h1 b e).1; ⟨_, hr, by simp⟩, mild_mv fun b e t' ht' => by obtain ⟨r, hr⟩ := (h1 b e).1; rw [hr] at ht'; injection ht' with ht'; subst ht'; rfl⟩
  · have hp' : ∀ rows, Ev.raw st.sl x ≠ .list true rows := fun rows e => hp ⟨rows, e⟩
    rw [moved_same hp']
    have hr := mval_quiet (h.rawS x) hp'
    exact ⟨γ, h.setQ d _ _ hr.isQuiet (fun _ => hr.slot), .refl _ _, .refl _ _ _⟩
def pushW (w : World) (o : Go.Obj) : World := { w with heap := w.heap.push o }
theorem push_heap (w : World) (o : Go.Obj) (b : Nat) (h : b < w.heap.size) : (pushW w o).heap[b]? = w.heap[b]? := by
  simp only [pushW, Array.getElem?_push]
  rw [if_neg (by omega)]
theorem push_new (w : World) (o : Go.Obj) : (pushW w o).heap[w.heap.size]? = some o := by show (w.heap.push o)[w.heap.size]? = some o; simp
theorem push_cell (w : World) (o : Go.Obj) (b off : Nat) (v : Value) (h : w.cell? ⟨b, off, none⟩ = some v) : (pushW w o).cell? ⟨b, off, none⟩ = some v := by
  have hb : b < w.heap.size := by
    by_cases hb : b < w.heap.size
    · exact hb
    · simp [World.cell?, Array.getElem?_eq_none (Nat.le_of_not_lt hb)] at h
  simp only [World.cell?, push_heap w o b hb] at h ⊢
  exact h
theorem cell_lt {w : World} {b off : Nat} {v : Value} (h : w.cell? ⟨b, off, none⟩ = some v) : b < w.heap.size := by
  by_cases hb : b < w.heap.size
  · exact hb
  · simp [World.cell?, Array.getElem?_eq_none (Nat.le_of_not_lt hb)] at h
/-- The new block of a world has nobody yet. -/
theorem Objs.fresh {γ : Gh} {w : World} {sg : List (List PV)} (h : Objs γ sg w) : γ.G w.heap.size = none ∧ ∀ o, γ.I w.heap.size o = none := by
  constructor
  · cases e : γ.G w.heap.size with
    | none => rfl
    | some t => have := h.inH _ _ e; omega
  · intro o
    cases e : γ.I w.heap.size o with
    | none => rfl
    | some v => have := cell_lt (h.imm _ _ _ e); omega
theorem same_push {γ : Gh} {w : World} {sg : List (List PV)} (h : Objs γ sg w) (o : Go.Obj) (t' : Option Tag) (t : Tag) : Same γ w (mv γ (some w.heap.size) t') (pushW w o) t := by
  intro b hb
  have := h.inH _ _ hb
  refine ⟨push_heap w o b this, ?_, fun _ => rfl⟩
  simp only [mv]
  rw [if_neg (by intro e; injection e with e; omega)]
  exact hb
theorem ext_push {γ : Gh} {w : World} (o : Go.Obj) (t' : Option Tag) : Ext γ w (mv γ (some w.heap.size) t') (pushW w o) :=
  ⟨by simp [pushW], .refl _, .refl _, rfl, ⟨rfl, rfl, rfl⟩, fun b hb hg => ⟨push_heap w o b hb, by simp only [mv]; rw [if_neg (by intro e; injection e with e; omega)], fun _ => rfl⟩⟩
theorem mild_push {γ : Gh} {w : World} {sg : List (List PV)} (h : Objs γ sg w) (o : Go.Obj) (t' : Option Tag) : Mild true γ w (mv γ (some w.heap.size) t') (pushW w o) :=
  ⟨.refl _, fun b t hb _ => by
    have := h.inH b t hb
    exact ⟨by simp only [mv]; rw [if_neg (by intro e; injection e with e; omega)]; exact hb, push_heap w o b this⟩⟩
/-- A block is added. -/
theorem Rel.push {γ : Gh} {st : St} {a : Act} {w : World} (h : Rel γ st a w) (o : Go.Obj) (t : Option Tag) : Rel (mv γ (some w.heap.size) t) st a (pushW w o) := by
  have hS := same_push h.toObjs o t
  refine ⟨Objs.keep (γ := γ) (w := w) (w' := pushW w o) (γ' := mv γ (some w.heap.size) t) (.refl _) rfl ⟨fun _ => hS _, fun _ _ => hS _⟩ (fun b o' v hv => push_cell w o b o' v (h.imm _ _ _ hv)) ?_ h.toObjs, h.size, h.defers, fun s hs => ?_⟩
  · intro b t' hb
    simp only [mv] at hb
    simp only [pushW, Array.size_push]
    split at hb
    · rename_i e; injection e with e; omega
    · have := h.inH b t' hb; omega
  · exact SlotAt.keep (γ := γ) (w := w) (w' := pushW w o) (γ' := mv γ (some w.heap.size) t) (.refl _) (.refl _) ⟨hS _, hS _, fun _ => hS _⟩ (fun s' _ _ => .refl _ _ _) (h.slots s hs)
theorem new_box {γ : Gh} {w : World} {sg : List (List PV)} (h : Objs γ sg w) {vs : List PV} {arr : Array Value} (el : TypeId) (hl : vs.length = arr.size) (hv : ∀ j, j < vs.length → NilAt γ (vs.getD j .undef) (arr.getD j Go.undef)) (t : Tag) (ct : Nat → Tag) :
    BoxAt (mv γ (some w.heap.size) (some t)) (pushW w (.cells arr el (0, 0))) t ct vs w.heap.size := by
  refine ⟨by simp [mv], h.fresh.2, arr, el, push_new _ _, hl.symm, fun j hj => ?_⟩
  rcases hv j hj with ⟨h1, h2⟩ | h
  · exact .inl ⟨[], h1, .inl ⟨rfl, h2⟩⟩
  · exact .inr h
/-- More is known of a block that nobody holds. -/
theorem Rel.extI {γ : Gh} {st : St} {a : Act} {w : World} (h : Rel γ st a w) {b : Nat} (hb : γ.G b = none) {I' : Nat → Nat → Option Value} (hI : LeI γ.I I') (ho : ∀ b' o, b' ≠ b → I' b' o = γ.I b' o)
    (hc : ∀ o v, I' b o = some v → w.cell? ⟨b, o, none⟩ = some v) : Rel { γ with I := I' } st a w := by
  have hS : ∀ t, Same γ w { γ with I := I' } w t := fun t b' h' => ⟨rfl, h', fun o => ho b' o (by rintro rfl; rw [hb] at h'; cases h')⟩
  refine ⟨Objs.keep (γ := γ) (γ' := { γ with I := I' }) (w := w) (w' := w) hI rfl ⟨fun _ => hS _, fun _ _ => hS _⟩ (fun b' o v hv => ?_) h.inH h.toObjs, h.size, h.defers, fun s hs => ?_⟩
  · by_cases e : b' = b
    · subst e; exact hc o v hv
    · simp only [ho b' o e] at hv; exact h.imm _ _ _ hv
  · exact SlotAt.keep (γ := γ) (γ' := { γ with I := I' }) (w := w) (w' := w) hI (.refl _) ⟨hS _, hS _, fun _ => hS _⟩ (fun s' _ _ => .refl _ _ _) (h.slots s hs)
/-- New memory for slot d. -/
theorem new_sound {γ : Gh} {st : St} {a : Act} {w : World} (h : Rel γ st a w) {esc im : List Nat} {d : Nat} {vs : List PV} {arr : Array Value} (el : TypeId) {K : St → Prop} (hl : vs.length = arr.size)
    (hv : ∀ j, j < vs.length → NilAt γ (vs.getD j .undef) (arr.getD j Go.undef)) (hk : newW esc im d vs st K) :
    ∃ γ' st', K st' ∧ Rel γ' st' (a.put (some d) (.pointer (some ⟨w.heap.size, 0, none⟩))) (pushW w (.cells arr el (0, 0))) ∧ Ext γ w γ' (pushW w (.cells arr el (0, 0))) ∧ Mild true γ w γ' (pushW w (.cells arr el (0, 0))) := by
  unfold newW at hk
  cases he : esc.contains d with
  | true =>
    rw [he] at hk
    let γ' : Gh := { mv γ (some w.heap.size) (some (.ob st.sg.length)) with ob := γ.ob ++ [w.heap.size] }
    have hleO : LeO γ.ob γ'.ob := fun i b hb => by simp only [γ']; rw [List.getElem?_append_left (List.getElem?_eq_some_iff.1 hb).1]; exact hb
    have h1 := h.push (.cells arr el (0, 0)) (some (.ob st.sg.length))
    have hS : ∀ t, Same (mv γ (some w.heap.size) (some (.ob st.sg.length))) (pushW w (.cells arr el (0, 0))) γ' (pushW w (.cells arr el (0, 0))) t := fun t b hb => ⟨rfl, hb, fun _ => rfl⟩
    have hO : Objs γ' (st.sg ++ [vs]) (pushW w (.cells arr el (0, 0))) := by
      refine ⟨h1.imm, h1.inH, by simp [γ', h.len], fun i hi => ?_⟩
      simp only [List.length_append, List.length_singleton] at hi
      by_cases e : i = st.sg.length
      · subst e
        have e1 : (st.sg ++ [vs]).getD st.sg.length [] = vs := by simp [List.getD_eq_getElem?_getD]
        have e2 : γ'.ob.getD st.sg.length 0 = w.heap.size := by simp [γ', List.getD_eq_getElem?_getD, ← h.len]
        rw [e1, e2]
        exact BoxAt.keep (γ := mv γ (some w.heap.size) (some (.ob st.sg.length))) (γ' := γ') (.refl _) hleO (hS _) (fun _ => hS _) (new_box h.toObjs el hl hv _ _)
      · have hi' : i < st.sg.length := by omega
        have e1 : (st.sg ++ [vs]).getD i [] = st.sg.getD i [] := by simp [List.getD_eq_getElem?_getD, List.getElem?_append_left hi']
        have e2 : γ'.ob.getD i 0 = γ.ob.getD i 0 := by simp [γ', List.getD_eq_getElem?_getD, List.getElem?_append_left (show i < γ.ob.length by rw [h.len]; exact hi')]
        rw [e1, e2]
        exact BoxAt.keep (γ := mv γ (some w.heap.size) (some (.ob st.sg.length))) (γ' := γ') (.refl _) hleO (hS _) (fun _ => hS _) (h1.objs i hi')
    refine ⟨γ', _, hk, ?_, ?_, ⟨.refl _, (mild_push h.toObjs (.cells arr el (0, 0)) (some (.ob st.sg.length))).box⟩⟩
    · exact Rel.set (γ' := γ') (w' := pushW w (.cells arr el (0, 0))) h1 (.refl _) hleO hO d (.ptr st.sg.length 0) _ (fun s _ => ⟨hS _, hS _, fun _ => hS _⟩) (fun s' _ => BoxSame.put _ _ _ _ _ h.size (.inl rfl) s')
        (fun _ => Rep.slot (.ptr _ _ _ (by simp [γ', ← h.len])))
    · exact Ext.trans (γ1 := mv γ (some w.heap.size) (some (.ob st.sg.length))) (ext_push _ _) ⟨Nat.le_refl _, .refl _, hleO, rfl, ⟨rfl, rfl, rfl⟩, fun b _ _ => ⟨rfl, rfl, fun _ => rfl⟩⟩
  | false =>
    rw [he] at hk
    cases hm : im.contains d with
    | true =>
      rw [hm] at hk
      have hfr := h.toObjs.fresh
      let I' : Nat → Nat → Option Value := fun b o => if b = w.heap.size then arr[o]? else γ.I b o
      have hI : LeI γ.I I' := fun b o v hv' => by
        have : b ≠ w.heap.size := by rintro rfl; rw [hfr.2] at hv'; cases hv'
        simp only [I', if_neg this]; exact hv'
      have h1 := h.push (.cells arr el (0, 0)) none
      have h2 := h1.extI (b := w.heap.size) (I' := I') (by simp [mv]) hI (fun b o hb => by simp only [I', if_neg hb]; rfl) (fun o v hv' => by
        simp only [I', if_true] at hv'
        simp only [World.cell?, push_new]
        exact hv')
      have hrep : Rep I' γ.ob (.eaddr (vs.map cstrip) 0) (.pointer (some ⟨w.heap.size, 0 + 0, none⟩)) := by
        refine Rep.eaddr_mk fun j hj => ?_
        simp only [List.length_map] at hj
        have hj' : j < arr.size := by omega
        refine ⟨arr.getD j Go.undef, by simp [I', Array.getD_eq_getD_getElem?, hj'], ?_⟩
        rw [getD_map' cstrip _ j .undef .undef hj]
        exact (hv j hj).cstrip.mono hI (.refl _)
      refine ⟨_, _, hk, h2.setQ (some d) _ _ rfl (fun _ => Rep.slot hrep), ⟨by simp [pushW], hI, .refl _, rfl, ⟨rfl, rfl, rfl⟩, fun b hb hg => ?_⟩, ⟨hI, (mild_push h.toObjs (.cells arr el (0, 0)) none).box⟩⟩
      have hne : b ≠ w.heap.size := by omega
      refine ⟨push_heap w _ b hb, ?_, fun o => ?_⟩
      · simp only [mv]; rw [if_neg (fun e => hne (by injection e with e; exact e.symm))]
      · simp only [I', if_neg hne]
    | false =>
    rw [hm] at hk
    obtain ⟨h0, hk⟩ := chk_iff.mp hk
    have h1 := h.push (.cells arr el (0, 0)) (some (.bx d))
    refine ⟨_, _, hk, ?_, ext_push _ (some (.bx d)), mild_push h.toObjs _ _⟩
    refine h1.set (.refl _) (.refl _) h1.toObjs d _ _ (fun s _ => .refl _ _ _) ?_ (fun hd => ⟨_, rfl, new_box h.toObjs el hl hv _ _⟩)
    rintro s' ⟨s, off, hs⟩ cells hc
    have hne : s' ≠ d := by
      rintro rfl
      have hlt : s < st.sl.length := by
        by_cases hlt : s < st.sl.length
        · exact hlt
        · simp [List.getD_eq_getElem?_getD, List.getElem?_eq_none (Nat.le_of_not_lt hlt)] at hs
      have hm : PV.baddr s' off ∈ st.sl := by
        rw [← hs]
        simp [List.getD_eq_getElem?_getD, hlt]
      simp at h0
      have := h0 _ hm
      simp [isBaddr] at this
    rw [getD_set, if_neg (by simp [hne])] at hc
    rw [getD_setA, if_neg (by simp [hne])]
    exact ⟨⟨_, hc⟩, rfl⟩
end Go.Ev
namespace Go.Ev
open PV
theorem same_row {γ : Gh} {w : World} {b : Nat} {arr : Array Value} {t t' : Tag} (hb : γ.G b = some t) (hne : t' ≠ t) : Same γ w γ (w.setRow b arr) t' := by
  intro b' h'
  have : b' ≠ b := by rintro rfl; rw [hb] at h'; injection h' with h'; exact hne h'.symm
  exact ⟨setRow_other w b b' arr this, h', fun _ => rfl⟩
theorem imm_row {γ : Gh} {w : World} {b : Nat} {arr : Array Value} (hi : ∀ b o v, γ.I b o = some v → w.cell? ⟨b, o, none⟩ = some v) (hn : ∀ o, γ.I b o = none) :
    ∀ b' o v, γ.I b' o = some v → (w.setRow b arr).cell? ⟨b', o, none⟩ = some v := by
  intro b' o v h
  have : b' ≠ b := by rintro rfl; rw [hn] at h; cases h
  have h1 := hi _ _ _ h
  simp only [World.cell?, setRow_other w b b' arr this] at h1 ⊢
  exact h1
def rowOf (cur : Array Value) (off : Nat) (vals : List Value) : Array Value := (cur.toList.take off ++ vals ++ cur.toList.drop (off + vals.length)).toArray
theorem rowOf_size (cur : Array Value) (off : Nat) (vals : List Value) (h : off + vals.length ≤ cur.size) : (rowOf cur off vals).size = cur.size := by
  simp [rowOf]; omega
theorem rowOf_getD (cur : Array Value) (off : Nat) (vals : List Value) (h : off + vals.length ≤ cur.size) (j : Nat) :
    (rowOf cur off vals).getD j Go.undef = if off ≤ j ∧ j < off + vals.length then vals.getD (j - off) Go.undef else cur.getD j Go.undef := by
  have h0 : (cur.toList.take off).length = off := by simp; omega
  simp only [rowOf, Array.getD_eq_getD_getElem?, List.getElem?_toArray, List.getD_eq_getElem?_getD]
  by_cases h1 : j < off
  · rw [if_neg (by omega), List.append_assoc, List.getElem?_append_left (by omega), List.getElem?_take, if_pos h1]; simp
  · by_cases h2 : j < off + vals.length
    · rw [if_pos (by omega), List.append_assoc, List.getElem?_append_right (by omega), h0, List.getElem?_append_left (by omega)]
    · rw [if_neg (by omega), List.append_assoc, List.getElem?_append_right (by omega), h0, List.getElem?_append_right (by omega), List.getElem?_drop]
      rw [show off + vals.length + (j - off - vals.length) = j by omega]; simp
theorem box_set {P : Program} {γ : Gh} {w : World} {t : Tag} {ct : Nat → Tag} {cells : List PV} {b : Nat} (h : BoxAt γ w t ct cells b) (hct : ∀ j, ct j ≠ t) {vs : List PV} {vals : List Value} {off : Nat}
    (hl : vs.length = vals.length) (ho : off + vs.length ≤ cells.length) (h1 : ∀ v ∈ vals, v.oneCell' = true) (hv : ∀ j, j < vs.length → CellAt γ w (ct (off + j)) (vs.getD j .undef) (vals.getD j Go.undef)) :
    ∃ arr', (storeCells ⟨b, off, none⟩ vals).run P w = .ok () (w.setRow b arr') ∧ BoxAt γ (w.setRow b arr') t ct (splice cells off vs) b := by
  obtain ⟨k1, k2, arr, el, k3, k4, k5⟩ := h
  have ho' : off + vals.length ≤ arr.size := by omega
  refine ⟨rowOf arr off vals, ?_, k1, k2, rowOf arr off vals, el, setRow_heap w b arr _ el (0, 0) k3, by rw [rowOf_size _ _ _ ho', splice_length _ _ _ ho, k4], fun j hj => ?_⟩
  · have := run_storeCells_at P b off el vals 0 arr w k3 (by simpa using ho') h1
    simpa [rowOf] using this
  · rw [splice_length _ _ _ ho] at hj
    rw [splice_getD _ _ _ _ ho, rowOf_getD _ _ _ ho', ← hl]
    have hS : ∀ j, Same γ w γ (w.setRow b (rowOf arr off vals)) (ct j) := fun j => same_row k1 (hct j)
    by_cases hjj : off ≤ j ∧ j < off + vs.length
    · rw [if_pos hjj, if_pos hjj]
      have := hv (j - off) (by omega)
      rw [show off + (j - off) = j by omega] at this
      exact this.keep (.refl _) (.refl _) (hS j)
    · rw [if_neg hjj, if_neg hjj]
      exact (k5 j hj).keep (.refl _) (.refl _) (hS j)
theorem ext_row {γ γ' : Gh} {w : World} {b : Nat} {arr : Array Value} {t : Tag} (hb : γ'.G b = some t) (ht : t ≠ .out) (hE : Ext γ w γ' w) : Ext γ w γ' (w.setRow b arr) := by
  refine ⟨by simp, hE.leI, hE.leO, hE.D, hE.io, fun b' h' hg => ?_⟩
  obtain ⟨_, k2, k3⟩ := hE.keep b' h' hg
  have : b' ≠ b := by
    rintro rfl
    rw [hb] at k2
    rcases hg with hg | hg <;> rw [hg] at k2 <;> simp at k2
    exact ht k2
  exact ⟨setRow_other w b b' arr this, k2, k3⟩
theorem getD_lt {st : St} {s : Nat} {p : PV} (h : st.sl.getD s .undef = p) (hp : p ≠ .undef) : s < st.sl.length := by
  by_cases hlt : s < st.sl.length
  · exact hlt
  · simp [List.getD_eq_getElem?_getD, List.getElem?_eq_none (Nat.le_of_not_lt hlt)] at h
    exact (hp h.symm).elim
/-- What a store needs of what is stored. -/
def Vals (γ : Gh) (w : World) (B : Option Nat) (vs : List PV) (vals : List Value) : Prop :=
  ∀ t : Nat → Tag, ∀ j, j < vs.length → CellAt (mv γ B (some (t 0))) w (t j) (vs.getD j .undef) (vals.getD j Go.undef)
theorem store_box {P : Program} {γ : Gh} {st : St} {a : Act} {w : World} {B : Option Nat} (h : Rel (mv γ B none) st a w) (hB : ∀ b, B = some b → (∃ t, γ.G b = some t ∧ t ≠ .out) ∧ b < w.heap.size)
    {s : Nat} {cs : List PV} (hs : st.sl.getD s .undef = .box cs) {vs : List PV} {vals : List Value} {off : Nat} (hl : vs.length = vals.length) (ho : off + vs.length ≤ cs.length) (h1 : ∀ v ∈ vals, v.oneCell' = true) (hv : Vals γ w B vs vals) :
    ∃ b γ' w', a.tmps.getD s Go.undef = .pointer (some ⟨b, 0, none⟩) ∧ (storeCells ⟨b, off, none⟩ vals).run P w = .ok () w' ∧ Rel γ' ⟨st.sl.set s (.box (splice cs off vs)), st.sg⟩ a w' ∧ Ext γ w γ' w' := by
  have hlt := getD_lt hs (by simp)
  let t : Nat → Tag := fun j => .bc s (off + j)
  have h2 : Rel (mv γ B (some (t 0))) st a w := by
    have := h.tag (B := B) (t := some (t 0)) (fun b e => ⟨by simp [mv, e], (hB b e).2⟩)
    rwa [mv_mv] at this
  have hE : Ext γ w (mv γ B (some (t 0))) w := ext_mv fun b e => (hB b e).1
  have hv' := hv t
  generalize mv γ B (some (t 0)) = γ' at *
  have hsl := h2.slots s hlt
  rw [hs] at hsl
  obtain ⟨b, hb, hbox⟩ := hsl
  obtain ⟨arr', hrun, hbox'⟩ := box_set (P := P) hbox (fun j => by simp) hl ho h1 hv'
  have hG := hbox.1
  refine ⟨b, γ', _, hb, hrun, ?_, ext_row hG (by simp) hE⟩
  have hS : ∀ t', t' ≠ .bx s → Same γ' w γ' (w.setRow b arr') t' := fun t' hne => same_row hG hne
  have hO : Objs γ' st.sg (w.setRow b arr') := Objs.keep (γ := γ') (γ' := γ') (.refl _) rfl ⟨fun i => hS _ (by simp), fun i j => hS _ (by simp)⟩ (imm_row h2.imm hbox.2.1) (fun b' t' h' => by simp; exact h2.inH b' t' h') h2.toObjs
  have := Rel.set (γ' := γ') (w' := w.setRow b arr') (sg' := st.sg) h2 (.refl _) (.refl _) hO s (.box (splice cs off vs)) (a.tmps.getD s Go.undef)
    (fun s' hne => ⟨hS _ (by simp), hS _ (fun e => hne (by injection e)), fun _ => hS _ (by simp)⟩) (by
      rintro s' ⟨_, _, _⟩ cells hc
      rw [getD_set] at hc
      rw [getD_setA]
      by_cases e : s' = s
      · subst e
        exact ⟨⟨cs, hs⟩, by split <;> rfl⟩
      · rw [if_neg (by simp [e])] at hc
        rw [if_neg (by simp [e])]
        exact ⟨⟨_, hc⟩, rfl⟩) (fun _ => ⟨b, hb, hbox'⟩)
  rw [act_same] at this
  exact this
theorem store_obj {P : Program} {γ : Gh} {st : St} {a : Act} {w : World} {B : Option Nat} (h : Rel (mv γ B none) st a w) (hB : ∀ b, B = some b → (∃ t, γ.G b = some t ∧ t ≠ .out) ∧ b < w.heap.size)
    {i b0 : Nat} {cs : List PV} (hs : st.sg[i]? = some cs) (hb0 : γ.ob[i]? = some b0) {vs : List PV} {vals : List Value} {off : Nat} (hl : vs.length = vals.length) (ho : off + vs.length ≤ cs.length) (h1 : ∀ v ∈ vals, v.oneCell' = true) (hv : Vals γ w B vs vals) :
    ∃ γ' w', (storeCells ⟨b0, off, none⟩ vals).run P w = .ok () w' ∧ Rel γ' ⟨st.sl, st.sg.set i (splice cs off vs)⟩ a w' ∧ Ext γ w γ' w' := by
  have hlt : i < st.sg.length := (List.getElem?_eq_some_iff.mp hs).1
  let t : Nat → Tag := fun j => .oc i (off + j)
  have h2 : Rel (mv γ B (some (t 0))) st a w := by
    have := h.tag (B := B) (t := some (t 0)) (fun b e => ⟨by simp [mv, e], (hB b e).2⟩)
    rwa [mv_mv] at this
  have hE : Ext γ w (mv γ B (some (t 0))) w := ext_mv fun b e => (hB b e).1
  have hv' := hv t
  have hb0' : (mv γ B (some (t 0))).ob[i]? = some b0 := hb0
  generalize mv γ B (some (t 0)) = γ' at *
  have hbox := h2.objs i hlt
  rw [show st.sg.getD i [] = cs by simp [List.getD_eq_getElem?_getD, hs], show γ'.ob.getD i 0 = b0 by simp [List.getD_eq_getElem?_getD, hb0']] at hbox
  obtain ⟨arr', hrun, hbox'⟩ := box_set (P := P) hbox (fun j => by simp) hl ho h1 hv'
  have hG := hbox.1
  refine ⟨γ', _, hrun, ?_, ext_row hG (by simp) hE⟩
  have hS : ∀ t', t' ≠ .ob i → Same γ' w γ' (w.setRow b0 arr') t' := fun t' hne => same_row hG hne
  refine ⟨⟨imm_row h2.imm hbox.2.1, fun b' t' h' => by simp; exact h2.inH b' t' h', by simp [h2.len], fun k hk => ?_⟩, h2.size, h2.defers, fun s hs' => ?_⟩
  · simp only [List.length_set] at hk
    by_cases e : k = i
    · subst e
      rw [show (st.sg.set k (splice cs off vs)).getD k [] = splice cs off vs by simp [List.getD_eq_getElem?_getD, hlt], show γ'.ob.getD k 0 = b0 by simp [List.getD_eq_getElem?_getD, hb0']]
      exact hbox'
    · rw [show (st.sg.set i (splice cs off vs)).getD k [] = st.sg.getD k [] by rw [getD_set, if_neg (by simp [e])]]
      exact BoxAt.keep (γ := γ') (γ' := γ') (.refl _) (.refl _) (hS _ (by simpa using e)) (fun _ => hS _ (by simp)) (h2.objs k hk)
  · exact SlotAt.keep (γ := γ') (γ' := γ') (.refl _) (.refl _) ⟨hS _ (by simp), hS _ (by simp), fun _ => hS _ (by simp)⟩ (fun s' _ _ => .refl _ _ _) (h2.slots s hs')
/-- A store. -/
theorem setW_sound {P : Program} {γ : Gh} {st : St} {a : Act} {w : World} {B : Option Nat} (h : Rel (mv γ B none) st a w) (hB : ∀ b, B = some b → (∃ t, γ.G b = some t ∧ t ≠ .out) ∧ b < w.heap.size)
    {x : Operand} {vs : List PV} {vals : List Value} (hl : vs.length = vals.length) (h1 : ∀ v ∈ vals, v.oneCell' = true) (hv : Vals γ w B vs vals) {K : St → Prop} (hk : setW st (Ev.raw st.sl x) x vs K) :
    ∃ b off γ' st' w', K st' ∧ a.eval x = .pointer (some ⟨b, off, none⟩) ∧ (storeCells ⟨b, off, none⟩ vals).run P w = .ok () w' ∧ Rel γ' st' a w' ∧ Ext γ w γ' w' := by
  have hx := h.rawS x
  generalize hp : Ev.raw st.sl x = p at *
  unfold setW objSet at hk
  split at hk
  · rename_i cs
    cases x with
    | tmp s =>
      obtain ⟨h2, hk⟩ := chk_iff.mp hk
      simp only [Ev.raw] at hp
      obtain ⟨b, γ', w', k1, k2, k3, k4⟩ := store_box (P := P) (off := 0) h hB hp hl (by have := of_decide_eq_true h2; omega) h1 hv
      exact ⟨b, 0, γ', _, w', hk, k1, k2, k3, k4⟩
    | _ => exact hk.elim
  · rename_i s off
    split at hk
    · rename_i cs hc
      obtain ⟨h2, hk⟩ := chk_iff.mp hk
      obtain ⟨b, γ', w', k1, k2, k3, k4⟩ := store_box (P := P) h hB hc hl (of_decide_eq_true h2) h1 hv
      obtain ⟨b', k5, k6⟩ := hx ⟨_, hc⟩
      rw [k1] at k5; injection k5 with k5; injection k5 with k5; injection k5 with k5; subst k5
      exact ⟨b, off, γ', _, w', hk, k6, k2, k3, k4⟩
    · exact hk.elim
  · rename_i i off
    split at hk
    · rename_i cs hc
      obtain ⟨h2, hk⟩ := chk_iff.mp hk
      generalize a.eval x = va at *
      cases hx with
      | ptr _ _ b hb =>
        obtain ⟨γ', w', k2, k3, k4⟩ := store_obj (P := P) h hB hc hb hl (of_decide_eq_true h2) h1 hv
        exact ⟨b, off, γ', _, w', hk, rfl, k2, k3, k4⟩
    · exact hk.elim
  · exact hk.elim
theorem cellsAs_slot {P : Program} {γ : Gh} {w : World} {sl : List PV} {tm : Array Value} {s : Nat} {t : TypeId} {p : PV} {v : Value} {K : List PV → Prop} (h : SlotAt γ w sl tm s p v) (hp : ∀ rows, p ≠ .list true rows) (hk : cellsAs P t (mval' p) K) :
    ∃ vs n, K vs ∧ szT P t = some n ∧ vs.length = n ∧ v.cells.size = n ∧ (∀ v' ∈ v.cells.toList, v'.oneCell' = true) ∧ ∀ j, j < n → NilAt γ (vs.getD j .undef) (v.cells.getD j Go.undef) := by
  by_cases hag : ∃ cs, p = .agg cs
  · obtain ⟨cs, rfl⟩ := hag
    obtain ⟨vs, rfl, h2, h3⟩ := h
    simp only [mval', cellsAs] at hk
    split at hk
    · rename_i n hz ha
      obtain ⟨h1, hk⟩ := chk_iff.mp hk
      simp only [Bool.and_eq_true, beq_iff_eq, aggC, List.all_eq_true] at h1
      refine ⟨_, n, hk, hz, h1.2.1, by simp only [Value.cells]; rw [← h2]; exact h1.2.1, ?_, fun j hj => h3 j (by omega)⟩
      intro v' hv'
      simp only [Value.cells, Array.mem_toList_iff] at hv'
      obtain ⟨j, hj, rfl⟩ := Array.mem_iff_getElem.mp hv'
      have hj' : j < cs.length := by omega
      have := h3 j hj'
      have e : vs.getD j Go.undef = vs[j] := by simp [Array.getD_eq_getD_getElem?, hj]
      rw [e] at this
      have hc := h1.2.2 cs[j] (List.getElem_mem hj')
      have e2 : cs.getD j .undef = cs[j] := by simp [List.getD_eq_getElem?_getD, hj']
      rw [e2] at this
      rcases this with ⟨_, A, h4, _⟩ | h4
      · rw [h4]; rfl
      · exact h4.cell hc
    · obtain ⟨h1, hk⟩ := chk_iff.mp hk
      simp [isCell] at h1
    · exact hk.elim
  · have e : mval' p = p.strip := by
      cases p <;> first | rfl | skip
      · rename_i o r
        cases o with
        | false => rfl
        | true => exact (hp r rfl).elim
      · exact (hag ⟨_, rfl⟩).elim
    rw [e] at hk
    obtain ⟨vs, n, k1, k2, k3, k4, k5, k6⟩ := cellsAs_rep (SlotAt.strip h) hk
    refine ⟨vs, n, k1, k2, k3, k4, ?_, fun j hj => .inr (k6 j hj)⟩
    intro v' hv'
    rw [Array.mem_toList_iff] at hv'
    obtain ⟨j, hj, rfl⟩ := Array.mem_iff_getElem.mp hv'
    have := k6 j (by omega)
    have hj' : j < vs.length := by omega
    rw [show v.cells.getD j Go.undef = v.cells[j] by simp [Array.getD_eq_getD_getElem?, hj], show vs.getD j .undef = vs[j] by simp [List.getD_eq_getElem?_getD, hj']] at this
    simp only [List.all_eq_true] at k5
    exact this.cell (k5 _ (List.getElem_mem hj'))
theorem storeAt_run {P : Program} {t : TypeId} {b off n : Nat} {v : Value} {w w' : World} (hz : szT P t = some n) (hn : v.cells.size = n) (h : (storeCells ⟨b, off, none⟩ v.cells.toList).run P w = .ok () w') :
    (Instr.storeAt t (.pointer (some ⟨b, off, none⟩)) v).run P w = .ok () w' := by
  simp only [Instr.storeAt, Instr.sureAddr, Sem.run_bind, Sem.run_pure, Result.andThen_ok, storeVar, run_szT w hz]
  rw [if_neg (by simp [hn])]
  exact h
/-- The whole operation of a store. -/
theorem store_sound {P : Program} {γ : Gh} {st : St} {a : Act} {w : World} (h : Rel γ st a w) {t : TypeId} {x y : Operand} {K : St → Prop}
    (hk : cellsAs P t (mval' (Ev.raw st.sl y)) fun vs => setW ⟨moved st.sl y, st.sg⟩ (Ev.raw (moved st.sl y) x) x vs K) :
    ∃ γ' st' w', K st' ∧ (Instr.storeAt t (a.eval x) (a.eval y)).run P w = .ok () w' ∧ Rel γ' st' a w' ∧ Ext γ w γ' w' := by
  by_cases hp : ∃ rows, Ev.raw st.sl y = .list true rows
  · obtain ⟨rows, hp⟩ := hp
    obtain ⟨B, h1, h2, h3⟩ := moved_sound h hp
    rw [hp] at hk
    simp only [mval', cellsAs] at hk
    split at hk
    · obtain ⟨h0, hk⟩ := chk_iff.mp hk
      simp [PV.isAgg] at h0
    · rename_i n hz ha
      obtain ⟨h0, hk'⟩ := chk_iff.mp hk
      clear hk
      simp only [Bool.and_eq_true, beq_iff_eq] at h0
      obtain ⟨h0, rfl⟩ := h0
      have hc : (a.eval y).cells = #[a.eval y] ∧ (a.eval y).oneCell' = true := by
        rcases h3 none with ⟨_, A, e, _⟩ | ⟨_, A, c, k, arr, el, e, _⟩ <;> rw [e] <;> exact ⟨rfl, rfl⟩
      obtain ⟨b, off, γ', st', w', k1, k2, k3, k4, k5⟩ := setW_sound (P := P) h2 (fun b e => ⟨let ⟨r, hr⟩ := (h1 b e).1; ⟨_, hr, by simp⟩, (h1 b e).2⟩) (vs := [.list true rows]) (vals := [a.eval y]) rfl (by simpa using hc.2) (by
        intro t j hj
        simp only [List.length_singleton] at hj
        have : j = 0 := by omega
        subst this
        exact .inl ⟨rows, rfl, h3 _⟩) hk'
      refine ⟨γ', st', w', k1, ?_, k4, k5⟩
      rw [k2]
      exact storeAt_run hz (by rw [hc.1]; rfl) (by rw [hc.1]; exact k3)
    · exact hk.elim
  · have hp' : ∀ rows, Ev.raw st.sl y ≠ .list true rows := fun rows e => hp ⟨rows, e⟩
    rw [moved_same hp'] at hk
    obtain ⟨vs, n, hk, hz, h1, h2, h3, h4⟩ := cellsAs_slot (h.rawS y) hp' hk
    obtain ⟨b, off, γ', st', w', k1, k2, k3, k4, k5⟩ := setW_sound (P := P) (γ := γ) (B := none) (by rw [mv_none]; exact h) (by simp) (vs := vs) (vals := (a.eval y).cells.toList) (by simp; omega) h3 (by
      intro t j hj
      rw [mv_none]
      have := h4 j (by omega)
      rw [show (a.eval y).cells.toList.getD j Go.undef = (a.eval y).cells.getD j Go.undef by simp [List.getD_eq_getElem?_getD, Array.getD_eq_getD_getElem?]]
      rcases this with ⟨e1, e2⟩ | e
      · exact .inl ⟨[], e1, .inl ⟨rfl, e2⟩⟩
      · exact .inr e) hk
    exact ⟨γ', st', w', k1, by rw [k2]; exact storeAt_run hz h2 k3, k4, k5⟩
end Go.Ev
