/- The evaluator's words; the parser and the reading of tokens as plain functions. -/
import Derived.Test.YtmofhelddcnecaaGreatDoorB1
import Derived.IntWalk
import Derived.Lib.Strings
import Derived.MapKept
import Derived.Lib.IndexLaws
set_option linter.unusedVariables false
namespace Go.Ev
noncomputable section
open PV
def codeF (P : Program) (f : Nat) (p : List Nat) : Code := match P.funcs[f]? with
  | some F => codeAt F p
  | none => .skip
abbrev CodeT := Program → Caller → Nat → Hint → Code → St → Cont → Prop
/-- The evaluator again, as a word that the kernel does not open. -/
theorem sealC_ex : ∃ g : CodeT, g = codeW := ⟨codeW, rfl⟩
noncomputable def SW : CodeT := sealC_ex.choose
theorem SW_eq : SW = codeW := sealC_ex.choose_spec
def headReg : Code → Option Nat
  | .region id _ _ => some id
  | .seq a _ => headReg a
  | .block _ a => headReg a
  | .loop a => headReg a
  | .scope a => headReg a
  | _ => none
def isCut (cuts : List Nat) (b : Code) : Bool := match headReg b with
  | some i => cuts.any (Nat.beq i)
  | none => false
/-- The evaluator, which stops at cuts and at loops. -/
def codeC (P : Program) (call : Caller) (n : Nat) (h : Hint) (cuts : List Nat) : Code → St → Cont → Prop
  | .seq a b, st, K => codeC P call n h cuts a st (seqK (fun st K => bcond (isCut cuts b) (SW P call n h b st K) (codeC P call n h cuts b st K)) K)
  | .cond c a b, st, K => chk (val st.sl c).isB (bcond (val st.sl c).toB (codeC P call n h cuts a st K) (codeC P call n h cuts b st K))
  | .block id a, st, K => codeC P call n h cuts a st (blockK id K)
  | .loop a, st, K => loopW (SW P call n h a) n st K
  | .scope a, st, K => codeC P call n h cuts a st K
  | .skip, st, K => K .normal st
  | .label _, st, K => K .normal st
  | .ret, st, K => K .ret st
  | .exit id, st, K => K (.exit id) st
  | .region id ops false, st, K => opsW P call h ops.toList ops.toList st (fun st' => forceL (clear h.clr st'.sl) fun sl => K .normal ⟨sl, st'.sg⟩) (fun v st' => K (.pan v) st')
  | .region id ops true, st, K => drawW P call h id ops st (fun st' => forceL (clear h.clr st'.sl) fun sl => K .normal ⟨sl, st'.sg⟩) (fun v st' => K (.pan v) st')
  | _, _, _ => False
theorem codeC_eq (P : Program) (call : Caller) (n : Nat) (h : Hint) (cuts : List Nat) : ∀ (c : Code) (st : St) (K : Cont), codeC P call n h cuts c st K = codeW P call n h c st K
  | .seq a b, st, K => by
    have e : (fun st K => bcond (isCut cuts b) (SW P call n h b st K) (codeC P call n h cuts b st K)) = codeW P call n h b := by
      funext st K
      rw [SW_eq, codeC_eq P call n h cuts b]
      cases isCut cuts b <;> rfl
    simp only [codeC, codeW]
    rw [e, codeC_eq P call n h cuts a]
  | .cond c a b, st, K => by simp only [codeC, codeW]; rw [codeC_eq P call n h cuts a, codeC_eq P call n h cuts b]
  | .block id a, st, K => by simp only [codeC, codeW]; rw [codeC_eq P call n h cuts a]
  | .loop a, st, K => by simp only [codeC, codeW]; rw [SW_eq]
  | .scope a, st, K => by simp only [codeC, codeW]; rw [codeC_eq P call n h cuts a]
  | .skip, st, K => rfl
  | .label _, st, K => rfl
  | .ret, st, K => rfl
  | .exit _, st, K => rfl
  | .region id ops false, st, K => rfl
  | .region id ops true, st, K => rfl
  | .rangeFunc _ _ _ _, st, K => rfl
  | .goto _, st, K => rfl
  | .refuse _, st, K => rfl
section
variable (E : Env) (cuts : Nat → List Nat) (call : Caller) (f : Nat) (p : List Nat) (sl : List PV) (sg : List (List PV)) (K : Cont)
/-- A part of a function's code, sealed. -/
def CW : Prop := SW E.P call E.n (E.hint f) (codeF E.P f p) ⟨sl, sg⟩ K
/-- The same, open up to its cuts. -/
def TW : Prop := codeC E.P call E.n (E.hint f) (cuts f) (codeF E.P f p) ⟨sl, sg⟩ K
theorem CW_eq : CW E call f p sl sg K = TW E cuts call f p sl sg K := by unfold CW TW; rw [SW_eq, codeC_eq]
/-- A loop of a function. -/
def LW (m : Nat) : Prop := loopW (SW E.P call E.n (E.hint f) (codeF E.P f p)) m ⟨sl, sg⟩ K
def lK (m : Nat) : Cont := seqK (loopW (SW E.P call E.n (E.hint f) (codeF E.P f p)) m) K
theorem LW_succ (m : Nat) : LW E call f p sl sg K (m + 1) = TW E cuts call f p sl sg (lK E call f p K m) := by
  unfold LW TW lK
  rw [codeC_eq, SW_eq]; rfl
def sK : Cont := seqK (fun st K => bcond (isCut (cuts f) (codeF E.P f p)) (SW E.P call E.n (E.hint f) (codeF E.P f p) st K) (codeC E.P call E.n (E.hint f) (cuts f) (codeF E.P f p) st K)) K
def fK (K : Res → List (List PV) → Prop) : Cont := match E.P.funcs[f]? with
  | some F => finW E.P F K
  | none => fun _ _ => False
/-- A function's body. -/
def BW (args : List PV) (K : Res → List (List PV) → Prop) : Prop := match E.P.funcs[f]? with
  | some F => match F.body with
    | some c => codeC E.P call E.n (E.hint f) (cuts f) c ⟨args ++ List.replicate (F.ntmps - args.length) .skip, sg⟩ (finW E.P F K)
    | none => False
  | none => False
theorem callW_BW (k : Nat) (hf : E.foreign f = none) (args : List PV) (K : Res → List (List PV) → Prop) : callW E (k + 1) f args sg K = BW E cuts (callW E k) f sg args K := by
  rw [callW]; dsimp only; rw [hf]; dsimp only
  unfold BW
  cases E.P.funcs[f]? with
  | none => rfl
  | some F =>
    simp only [bodyW]
    cases F.body with
    | none => rfl
    | some c => simp only [codeC_eq]
end
abbrev Out := List (List PV) → Prop
def pan (K : Res → List (List PV) → Prop) (v : PV) (sg : List (List PV)) : Prop := K ⟨true, v⟩ sg
section
variable (c : Caller) (f : Nat) (args : List PV) (sg : List (List PV)) (X : PV → List (List PV) → Prop)
def cP (K : PV → Out) : Prop := c f args sg fun r s => bcond r.pan (X r.v s) (K r.v s)
def cI (K : Int → Out) : Prop := c f args sg fun r s => bcond r.pan (X r.v s) (chk ((r.v).isI .i64) (K (r.v).toI s))
def cB (K : Bool → Out) : Prop := c f args sg fun r s => bcond r.pan (X r.v s) (chk (r.v).isB (K (r.v).toB s))
def cS (K : ByteArray → Out) : Prop := c f args sg fun r s => bcond r.pan (X r.v s) (chk (r.v).isS (K (r.v).toS s))
def cTok (K : Int → ByteArray → Int → Int → Out) : Prop := c f args sg fun r s => bcond r.pan (X r.v s)
  (chk ((r.v).isAgg && ((r.v).aggC).length == 4) (chk ((((r.v).aggC).getD 0 .undef).isI .i64) (chk ((((r.v).aggC).getD 1 .undef).isS) (chk ((((r.v).aggC).getD 2 .undef).isI .i64) (chk ((((r.v).aggC).getD 3 .undef).isI .i64)
    (K (((r.v).aggC).getD 0 .undef).toI (((r.v).aggC).getD 1 .undef).toS (((r.v).aggC).getD 2 .undef).toI (((r.v).aggC).getD 3 .undef).toI s))))))
def cNd (K : Int → ByteArray → Int → Int → List (List PV) → Out) : Prop := c f args sg fun r s => bcond r.pan (X r.v s)
  (chk ((r.v).isAgg && ((r.v).aggC).length == 5) (chk ((((r.v).aggC).getD 0 .undef).isI .i64) (chk ((((r.v).aggC).getD 1 .undef).isS) (chk ((((r.v).aggC).getD 2 .undef).isI .i64) (chk ((((r.v).aggC).getD 3 .undef).isI .i64)
    (chk ((((r.v).aggC).getD 4 .undef).isL) (K (((r.v).aggC).getD 0 .undef).toI (((r.v).aggC).getD 1 .undef).toS (((r.v).aggC).getD 2 .undef).toI (((r.v).aggC).getD 3 .undef).toI (((r.v).aggC).getD 4 .undef).rows s)))))))
end
section
variable (sg : List (List PV)) (i off : Nat)
def oI (K : Int → Prop) : Prop := objGet sg i fun c => chk (decide (off + 1 ≤ c.length)) (chk ((c.getD off .undef).cstrip.isI .i64) (K (c.getD off .undef).cstrip.toI))
def oL (K : List (List PV) → Prop) : Prop := objGet sg i fun c => chk (decide (off + 1 ≤ c.length)) (chk ((c.getD off .undef).cstrip.isL) (K (c.getD off .undef).cstrip.rows))
end
end
end Go.Ev
set_option linter.unusedSimpArgs false
namespace Go.Ev
open PV
theorem chk_t (x : Prop) : chk true x = x := rfl
theorem bcond_t {α : Sort _} (x y : α) : bcond true x y = x := rfl
theorem bcond_f {α : Sort _} (x y : α) : bcond false x y = y := rfl
theorem objGet_at (pre post : List (List PV)) (c : List PV) (K : List PV → Prop) : objGet (pre ++ c :: post) pre.length K = K c := by
  simp [objGet]
theorem objSet_at (pre post : List (List PV)) (c : List PV) (off : Nat) (vs : List PV) (K : List (List PV) → Prop) :
    objSet (pre ++ c :: post) pre.length off vs K = chk (decide (off + vs.length ≤ c.length)) (K (pre ++ splice c off vs :: post)) := by
  simp [objSet]
theorem rowAt_map {α : Type} (f : α → List PV) (l : List α) (i : Int) (d : α) (h0 : 0 ≤ i) (h : i < l.length) : rowAt (l.map f) i = f (l.getD i.toNat d) := by
  have : i.toNat < l.length := by omega
  simp [rowAt, List.getD_eq_getElem?_getD, this]
theorem rowsOk_map {α : Type} (f : α → List PV) (k : Nat) (h : ∀ x, (f x).length = k) (l : List α) : rowsOk k (l.map f) = true := by
  simp [rowsOk, h]
theorem rowsOk_one (k : Nat) (r : List PV) : rowsOk k [r] = (r.length == k) := by simp [rowsOk]
theorem wrap_id (x : Int) (h0 : -9223372036854775808 ≤ x) (h1 : x ≤ 9223372036854775807) : IntKind.i64.wrap x = x := by
  rw [IntKind.wrap_i64]; omega
/-- A token. -/
structure Tok where
  kind : Int
  text : ByteArray
  at_ : Int
  end_ : Int
  deriving Inhabited
def tokRow (t : Tok) : List PV := [.int .i64 t.kind, .str t.text, .int .i64 t.at_, .int .i64 t.end_]
theorem tokRow_len (t : Tok) : (tokRow t).length = 4 := rfl
theorem oI_at (pre post : List (List PV)) (c : List PV) (off : Nat) (x : Int) (K : Int → Prop) (h : c[off]? = some (.int .i64 x)) : oI (pre ++ c :: post) pre.length off K = K x := by
  have h1 : off + 1 ≤ c.length := by
    have := (List.getElem?_eq_some_iff.1 h).1; omega
  simp [oI, objGet_at, h, chk_t, h1, cstrip, List.getD_eq_getElem?_getD, PV.isI, PV.toI]
theorem oL_at (pre post : List (List PV)) (c : List PV) (off : Nat) (x : List (List PV)) (K : List (List PV) → Prop) (h : c[off]? = some (.list false x)) : oL (pre ++ c :: post) pre.length off K = K x := by
  have h1 : off + 1 ≤ c.length := by
    have := (List.getElem?_eq_some_iff.1 h).1; omega
  simp [oL, objGet_at, h, chk_t, h1, cstrip, List.getD_eq_getElem?_getD, PV.isL, PV.rows]
end Go.Ev
namespace Go.Ev
open PV
/-- A tree. -/
inductive Tree where
  | mk (kind : Int) (text : ByteArray) (at_ end_ : Int) (kids : List Tree)
  deriving Inhabited
def Tree.kind : Tree → Int | .mk k _ _ _ _ => k
def Tree.text : Tree → ByteArray | .mk _ t _ _ _ => t
def Tree.at_ : Tree → Int | .mk _ _ a _ _ => a
def Tree.end_ : Tree → Int | .mk _ _ _ e _ => e
def Tree.kids : Tree → List Tree | .mk _ _ _ _ k => k
mutual
def nodeRow : Tree → List PV
  | .mk kd t a e ks => [.int .i64 kd, .str t, .int .i64 a, .int .i64 e, .list false (kidRows ks)]
def kidRows : List Tree → List (List PV)
  | [] => []
  | x :: r => nodeRow x :: kidRows r
end
theorem kidRows_map : ∀ l, kidRows l = l.map nodeRow
  | [] => rfl
  | x :: r => by rw [kidRows, kidRows_map r]; rfl
theorem nodeRow_len (t : Tree) : (nodeRow t).length = 5 := by cases t; rfl
theorem kidRows_app (l : List Tree) (x : Tree) : kidRows l ++ [nodeRow x] = kidRows (l ++ [x]) := by simp [kidRows_map]
theorem kidRows_ok (l : List Tree) : rowsOk 5 (kidRows l) = true := by rw [kidRows_map]; exact rowsOk_map nodeRow 5 nodeRow_len l
theorem nodeRow_eq (t : Tree) : nodeRow t = [.int .i64 t.kind, .str t.text, .int .i64 t.at_, .int .i64 t.end_, .list false (kidRows t.kids)] := by cases t; rfl
/-- What is read: tokens, and the size of the text. -/
structure Src where
  T : List Tok
  sz : Int
/-- What reading gives: a value and how far the parser is, or the offset of an error; or the fuel is out. -/
inductive PR (α : Type) where
  | ok (x : α) (nx : Nat)
  | bad (at_ : Int) (nx : Nat)
  | out
def PR.bind {α β : Type} (r : PR α) (f : α → Nat → PR β) : PR β := match r with
  | .ok x nx => f x nx
  | .bad a nx => .bad a nx
  | .out => .out
abbrev Ps (α : Type) := Src → Nat → PR α
instance : Monad Ps where
  pure x := fun _ nx => .ok x nx
  bind p f := fun S nx => (p S nx).bind fun x nx' => f x S nx'
theorem Ps.bind_ap {α β : Type} (p : Ps α) (f : α → Ps β) (S : Src) (nx : Nat) : (p >>= f) S nx = (p S nx).bind fun x nx' => f x S nx' := rfl
theorem Ps.ite_ap {α : Type} (c : Prop) [Decidable c] (a b : Ps α) (S : Src) (nx : Nat) : (if c then a else b) S nx = if c then a S nx else b S nx := by split <;> rfl
def peekT (T : List Tok) (sz : Int) (i : Nat) : Tok := if i < T.length then T.getD i default else ⟨0, ⟨#[]⟩, sz, 0⟩
def isT (T : List Tok) (nx : Nat) (t : ByteArray) : Bool := ((peekT T 0 nx).kind == 5 || (peekT T 0 nx).kind == 2) && (peekT T 0 nx).text.toList == t.toList
def endT (T : List Tok) (nx : Nat) : Int := if nx = 0 then 0 else (T.getD (nx - 1) default).end_
def outP {α : Type} : Ps α := fun _ _ => .out
def peekP : Ps Tok := fun S nx => .ok (peekT S.T S.sz nx) nx
def sizeP : Ps Int := fun S nx => .ok S.sz nx
def failP {α : Type} : Ps α := fun S nx => .bad (peekT S.T S.sz nx).at_ nx
/-- Two ways, by what comes; a mark or a keyword that is taken is read. -/
def isC {α : Type} (t : ByteArray) (p q : Ps α) : Ps α := fun S nx => if isT S.T nx t = true then p S nx else q S nx
def takeC {α : Type} (t : ByteArray) (p q : Ps α) : Ps α := fun S nx => if isT S.T nx t = true then p S (nx + 1) else q S nx
def moreC {α : Type} (p q : Ps α) : Ps α := fun S nx => if nx < S.T.length then p S nx else q S nx
def needP (t : ByteArray) : Ps Unit := fun S nx => if isT S.T nx t = true then .ok () (nx + 1) else .bad (peekT S.T S.sz nx).at_ nx
def kindP (kd : Int) : Ps Tok := fun S nx => if nx < S.T.length ∧ (peekT S.T S.sz nx).kind = kd then .ok (peekT S.T S.sz nx) (nx + 1) else .bad (peekT S.T S.sz nx).at_ nx
def endP : Ps Int := fun S nx => .ok (endT S.T nx) nx
def nodeP (kd : Int) (t : ByteArray) (a : Int) (ks : List Tree) : Ps Tree := fun S nx => .ok (.mk kd t a (endT S.T nx) ks) nx
def listT (e : Int) (ks : List Tree) : Tree := match ks with
  | [] => .mk 24 ⟨#[]⟩ e e []
  | x :: r => .mk 24 ⟨#[]⟩ x.at_ ((x :: r).getD r.length default).end_ (x :: r)
def oneP (p : Ps Tree) : Ps (List Tree) := do let x ← p; pure [x]
def metaP (tk kd : Int) : Ps Tree := do let t ← peekP; let n ← kindP tk; nodeP kd n.text t.at_ []
def partK (tk kd : Int) : Ps Tree := do
  let t ← peekP
  let n ← kindP tk
  needP ⟨#[59]⟩
  nodeP kd n.text t.at_ []
/-- A metavariable and a semicolon, or something else. -/
def partC {α : Type} (p : Tree → Ps α) (q : Ps α) : Ps α := fun S nx =>
  if (peekT S.T S.sz nx).kind = 7 then (do let x ← partK 7 26; p x) S nx
  else if (peekT S.T S.sz nx).kind = 6 ∧ (peekT S.T S.sz (nx + 1)).kind = 5 ∧ ((peekT S.T S.sz (nx + 1)).text.toList == (⟨#[59]⟩ : ByteArray).toList) = true then (do let x ← partK 6 25; p x) S nx
  else q S nx
def nameS : Ps ByteArray := do
  let n ← kindP 1
  takeC ⟨#[46]⟩ (do let u ← kindP 1; pure (n.text ++ (⟨#[46]⟩ ++ u.text))) (pure n.text)
def nameP : Ps Tree := do
  let t ← peekP
  let s ← nameS
  nodeP 8 s t.at_ []
def typP : Ps Tree := do
  let t ← peekP
  if t.kind = 6 then metaP 6 25 else nameP
def manyOr (one : Ps Tree) : Ps Tree := do
  let t ← peekP
  if t.kind = 7 then metaP 7 26 else one
def rowP (one : Ps Tree) : Nat → List Tree → Ps (List Tree)
  | 0, _ => outP
  | g + 1, acc => do
    let x ← manyOr one
    takeC ⟨#[44]⟩ (rowP one g (acc ++ [x])) (pure (acc ++ [x]))
def paramP : Ps Tree := do
  let t ← peekP
  let n ← kindP 1
  needP ⟨#[58]⟩
  let y ← typP
  nodeP 7 n.text t.at_ [y]
/-- A list that may be left out, in parentheses. -/
def parensP (one : Ps Tree) (g : Nat) : Ps (List Tree) := isC ⟨#[41]⟩ (pure []) (rowP one g [])
section
variable (g : Nat) (E : Ps Tree)
def argsP : Ps (List Tree) := do
  needP ⟨#[40]⟩
  let l ← parensP E g
  needP ⟨#[41]⟩
  pure l
def newP (t : Tok) : Ps Tree := do
  let s ← nameS
  let l ← argsP g E
  nodeP 21 s t.at_ l
def innerP (t : Tok) : Ps Tree := do
  let x ← E
  needP ⟨#[41]⟩
  let e ← endP
  pure (.mk x.kind x.text t.at_ e x.kids)
def restP (t : Tok) : Ps Tree :=
  takeC ⟨#[116, 114, 117, 101]⟩ (nodeP 18 t.text t.at_ []) (takeC ⟨#[102, 97, 108, 115, 101]⟩ (nodeP 18 t.text t.at_ []) (takeC ⟨#[110, 117, 108, 108]⟩ (nodeP 18 t.text t.at_ []) (takeC ⟨#[116, 104, 105, 115]⟩ (nodeP 18 t.text t.at_ [])
    (takeC ⟨#[110, 101, 119]⟩ (newP g E t) (takeC ⟨#[40]⟩ (innerP E t) failP)))))
def leafP (tk kd : Int) (t : Tok) : Ps Tree := do let n ← kindP tk; nodeP kd n.text t.at_ []
def primaryP : Ps Tree := do
  let t ← peekP
  if t.kind = 1 then leafP 1 15 t else if t.kind = 3 then leafP 3 16 t else if t.kind = 4 then leafP 4 17 t else if t.kind = 6 then metaP 6 25 else restP g E t
def postP : Nat → Tree → Ps Tree
  | 0, _ => outP
  | m + 1, x => takeC ⟨#[46]⟩ (do let n ← kindP 1; let y ← nodeP 19 n.text x.at_ [x]; postP m y)
    (isC ⟨#[40]⟩ (do let l ← argsP g E; let y ← nodeP 20 ⟨#[]⟩ x.at_ (x :: l); postP m y) (pure x))
def signP (U : Ps Tree) (t : Tok) : Ps Tree := do let x ← U; nodeP 22 t.text t.at_ [x]
/-- An operand; U: an operand behind a sign. -/
def unaryB (U : Ps Tree) : Ps Tree := do
  let t ← peekP
  takeC ⟨#[33]⟩ (signP U t) (takeC ⟨#[45]⟩ (signP U t) (do let x ← primaryP g E; postP g E g x))
def knotU : Nat → Ps Tree
  | 0 => outP
  | m + 1 => unaryB g E (knotU m)
def unaryP : Ps Tree := unaryB g E (knotU g E g)
def binLoop (ops : List ByteArray) (sub : Ps Tree) : Nat → Tree → Ps Tree
  | 0, _ => outP
  | m + 1, x => do
    let t ← peekP
    if t.kind = 5 ∧ (ops.any fun o => t.text.toList == o.toList) = true then (do let t ← kindP 5; let y ← sub; let z ← nodeP 23 t.text x.at_ [x, y]; binLoop ops sub m z) else pure x
def binP : List (List ByteArray) → Ps Tree
  | [] => unaryP g E
  | ops :: r => do
    let x ← binP r
    binLoop ops (binP r) g x
end
def levels : List (List ByteArray) := [[⟨#[124, 124]⟩], [⟨#[38, 38]⟩], [⟨#[61, 61]⟩, ⟨#[33, 61]⟩], [⟨#[60]⟩, ⟨#[62]⟩], [⟨#[43]⟩, ⟨#[45]⟩], [⟨#[42]⟩, ⟨#[47]⟩, ⟨#[37]⟩]]
def exprB (g : Nat) (E : Ps Tree) : Ps Tree := binP g E levels
def knotE (g : Nat) : Nat → Ps Tree
  | 0 => outP
  | m + 1 => exprB g (knotE g m)
def exprP (g : Nat) : Ps Tree := exprB g (knotE g g)
def variableP (g : Nat) : Ps Tree := do
  let t ← peekP
  needP ⟨#[118, 97, 114]⟩
  let n ← kindP 1
  needP ⟨#[58]⟩
  let y ← typP
  let e ← endP
  let l ← takeC ⟨#[61]⟩ (oneP (exprP g)) (pure [])
  needP ⟨#[59]⟩
  nodeP 6 n.text t.at_ [y, listT e l]
def condP (g : Nat) : Ps Tree := do
  needP ⟨#[40]⟩
  let x ← exprP g
  needP ⟨#[41]⟩
  pure x
def stmtsP (S : Ps Tree) : Nat → List Tree → Ps (List Tree)
  | 0, _ => outP
  | m + 1, acc => isC ⟨#[125]⟩ (pure acc) (do let x ← S; stmtsP S m (acc ++ [x]))
def blockB (g : Nat) (S : Ps Tree) : Ps Tree := do
  let t ← peekP
  needP ⟨#[123]⟩
  let l ← stmtsP S g []
  needP ⟨#[125]⟩
  nodeP 9 ⟨#[]⟩ t.at_ l
def returnP (g : Nat) (t : Tok) : Ps Tree := do
  let l ← isC ⟨#[59]⟩ (pure []) (oneP (exprP g))
  needP ⟨#[59]⟩
  nodeP 10 ⟨#[]⟩ t.at_ l
def ifP (g : Nat) (S : Ps Tree) (t : Tok) : Ps Tree := do
  let x ← condP g
  let y ← blockB g S
  let e ← endP
  let l ← takeC ⟨#[101, 108, 115, 101]⟩ (oneP (blockB g S)) (pure [])
  nodeP 11 ⟨#[]⟩ t.at_ [x, y, listT e l]
def whileP (g : Nat) (S : Ps Tree) (t : Tok) : Ps Tree := do
  let x ← condP g
  let y ← blockB g S
  nodeP 12 ⟨#[]⟩ t.at_ [x, y]
def setP (g : Nat) (t : Tok) : Ps Tree := do
  let x ← exprP g
  takeC ⟨#[61]⟩ (do let y ← exprP g; needP ⟨#[59]⟩; nodeP 13 ⟨#[]⟩ t.at_ [x, y]) (do needP ⟨#[59]⟩; nodeP 14 ⟨#[]⟩ t.at_ [x])
def stmtB (g : Nat) (S : Ps Tree) : Ps Tree := do
  let t ← peekP
  partC pure (isC ⟨#[118, 97, 114]⟩ (variableP g) (isC ⟨#[123]⟩ (blockB g S) (takeC ⟨#[114, 101, 116, 117, 114, 110]⟩ (returnP g t) (takeC ⟨#[105, 102]⟩ (ifP g S t) (takeC ⟨#[119, 104, 105, 108, 101]⟩ (whileP g S t) (setP g t))))))
def knotS (g : Nat) : Nat → Ps Tree
  | 0 => outP
  | m + 1 => stmtB g (knotS g m)
def stmtP (g : Nat) : Ps Tree := stmtB g (knotS g g)
def blockP (g : Nat) : Ps Tree := blockB g (knotS g g)
def funP (g : Nat) (whole : Bool) : Ps Tree := do
  let t ← peekP
  needP ⟨#[102, 117, 110, 99]⟩
  let n ← kindP 1
  needP ⟨#[40]⟩
  let e ← endP
  let l ← parensP paramP g
  needP ⟨#[41]⟩
  let e2 ← endP
  let l2 ← takeC ⟨#[58]⟩ (oneP typP) (pure [])
  let e3 ← endP
  if whole = true then (do
    let x ← blockP g
    nodeP 5 n.text t.at_ [listT e l, listT e2 l2, listT e3 [x]]) else (do
    needP ⟨#[59]⟩
    nodeP 5 n.text t.at_ [listT e l, listT e2 l2, listT e3 []])
def memberP (g : Nat) : Ps Tree := isC ⟨#[118, 97, 114]⟩ (variableP g) (funP g true)
def membersP (one : Ps Tree) : Nat → List Tree → Ps (List Tree)
  | 0, _ => outP
  | m + 1, acc => isC ⟨#[125]⟩ (pure acc) (do
    let t ← peekP
    if t.kind = 6 then (do let x ← partK 6 25; membersP one m (acc ++ [x])) else
      partC (fun x => membersP one m (acc ++ [x])) (do let x ← one; membersP one m (acc ++ [x])))
/-- Members, with a list of them. -/
def bodyP (one : Ps Tree) (g : Nat) : Ps Tree := do
  needP ⟨#[123]⟩
  let e ← endP
  let l ← membersP one g []
  pure (listT e l)
def classP (g : Nat) : Ps Tree := do
  let t ← peekP
  needP ⟨#[99, 108, 97, 115, 115]⟩
  let n ← kindP 1
  let e ← endP
  let l ← takeC ⟨#[101, 120, 116, 101, 110, 100, 115]⟩ (oneP typP) (pure [])
  let e2 ← endP
  let l2 ← takeC ⟨#[105, 109, 112, 108, 101, 109, 101, 110, 116, 115]⟩ (rowP typP g []) (pure [])
  let d ← bodyP (memberP g) g
  needP ⟨#[125]⟩
  nodeP 3 n.text t.at_ [listT e l, listT e2 l2, d]
def ifaceP (g : Nat) : Ps Tree := do
  let t ← peekP
  needP ⟨#[105, 110, 116, 101, 114, 102, 97, 99, 101]⟩
  let n ← kindP 1
  let e ← endP
  let l ← takeC ⟨#[101, 120, 116, 101, 110, 100, 115]⟩ (rowP typP g []) (pure [])
  let d ← bodyP (funP g false) g
  needP ⟨#[125]⟩
  nodeP 4 n.text t.at_ [listT e l, d]
def declP (g : Nat) : Ps Tree := isC ⟨#[99, 108, 97, 115, 115]⟩ (classP g) (isC ⟨#[105, 110, 116, 101, 114, 102, 97, 99, 101]⟩ (ifaceP g) (isC ⟨#[102, 117, 110, 99]⟩ (funP g true) (isC ⟨#[118, 97, 114]⟩ (variableP g) failP)))
def importP : Ps Tree := do
  let t ← peekP
  needP ⟨#[105, 109, 112, 111, 114, 116]⟩
  let n ← kindP 1
  needP ⟨#[59]⟩
  nodeP 2 n.text t.at_ []
def importsP : Nat → List Tree → Ps (List Tree)
  | 0, _ => outP
  | m + 1, acc => isC ⟨#[105, 109, 112, 111, 114, 116]⟩ (do let x ← importP; importsP m (acc ++ [x])) (pure acc)
def declsP (g : Nat) : Nat → List Tree → Ps (List Tree)
  | 0, _ => outP
  | m + 1, acc => moreC (do let x ← declP g; declsP g m (acc ++ [x])) (pure acc)
def moduleP (g : Nat) : Ps Tree := do
  let l ← importsP g []
  let l ← declsP g g l
  let s ← sizeP
  pure (.mk 1 ⟨#[]⟩ 0 s l)
/-- Nothing stands behind what was read. -/
def wholeP (p : Ps Tree) : Ps Tree := do
  let x ← p
  moreC failP (pure x)
end Go.Ev
set_option synthInstance.maxHeartbeats 400000
set_option synthInstance.maxSize 2000
namespace Go.Ev
section
variable {α β : Type}
def Ps.seq (p : Ps α) (f : α → Ps β) : Ps β := p >>= f
theorem PR.bind_ok {r : PR α} {f : α → Nat → PR β} {y : β} {n : Nat} (h : r.bind f = .ok y n) : ∃ x m, r = .ok x m ∧ f x m = .ok y n := by
  cases r with
  | ok x m => exact ⟨x, m, rfl, h⟩
  | bad a m => cases h
  | out => cases h
theorem PR.bind_out {r : PR α} {f : α → Nat → PR β} (h : r.bind f = .out) : r = .out ∨ ∃ x m, r = .ok x m ∧ f x m = .out := by
  cases r with
  | ok x m => exact .inr ⟨x, m, rfl, h⟩
  | bad a m => cases h
  | out => exact .inl rfl
/-- It goes forward, within the tokens. -/
class Fw (p : Ps α) : Prop where
  fw : ∀ S nx x nx', nx ≤ S.T.length → p S nx = .ok x nx' → nx ≤ nx' ∧ nx' ≤ S.T.length
/-- It reads a token at least. -/
class Sp (p : Ps α) : Prop where
  sp : ∀ S nx x nx', nx ≤ S.T.length → p S nx = .ok x nx' → nx + 1 ≤ nx' ∧ nx' ≤ S.T.length
theorem Sp.fw' {p : Ps α} [h : Sp p] : Fw p := ⟨fun S nx x nx' h1 h2 => ⟨by have := (h.sp S nx x nx' h1 h2).1; omega, (h.sp S nx x nx' h1 h2).2⟩⟩
instance (x : α) : Fw (pure x : Ps α) := ⟨fun S nx y nx' h e => by cases e; exact ⟨Nat.le_refl _, h⟩⟩
instance {p : Ps α} {f : α → Ps β} [hp : Fw p] [hf : ∀ x, Fw (f x)] : Fw (p >>= f) := ⟨fun S nx y nx' h e => by
  obtain ⟨x, m, e1, e2⟩ := PR.bind_ok e
  have h1 := hp.fw S nx x m h e1
  have h2 := (hf x).fw S m y nx' h1.2 e2
  exact ⟨by omega, h2.2⟩⟩
instance {c : Prop} [Decidable c] {a b : Ps α} [Fw a] [Fw b] : Fw (if c then a else b) := by split <;> infer_instance
theorem Sp.bind1 {p : Ps α} {f : α → Ps β} [hp : Sp p] [hf : ∀ x, Fw (f x)] : Sp (p >>= f) := ⟨fun S nx y nx' h e => by
  obtain ⟨x, m, e1, e2⟩ := PR.bind_ok e
  have h1 := hp.sp S nx x m h e1
  have h2 := (hf x).fw S m y nx' h1.2 e2
  exact ⟨by omega, h2.2⟩⟩
theorem Sp.bind2 {p : Ps α} {f : α → Ps β} [hp : Fw p] [hf : ∀ x, Sp (f x)] : Sp (p >>= f) := ⟨fun S nx y nx' h e => by
  obtain ⟨x, m, e1, e2⟩ := PR.bind_ok e
  have h1 := hp.fw S nx x m h e1
  have h2 := (hf x).sp S m y nx' h1.2 e2
  exact ⟨by omega, h2.2⟩⟩
theorem Sp.ite {c : Prop} [Decidable c] {a b : Ps α} [Sp a] [Sp b] : Sp (if c then a else b) := by split <;> infer_instance
/-- Out of fuel it is not, with so many tokens left. -/
def To (p : Ps α) (S : Src) (m : Nat) : Prop := ∀ nx, nx ≤ S.T.length → S.T.length - nx ≤ m → p S nx ≠ .out
theorem To.mono {p : Ps α} {S : Src} {m k : Nat} (h : To p S m) (hk : k ≤ m) : To p S k := fun nx h1 h2 => h nx h1 (by omega)
theorem To.bind {p : Ps α} {f : α → Ps β} {S : Src} {m : Nat} (h : To p S m) (hf : Fw p) (h2 : ∀ x, To (f x) S m) : To (p >>= f) S m := by
  intro nx h1 hm e
  rcases PR.bind_out e with e | ⟨x, k, e1, e2⟩
  · exact h nx h1 hm e
  · have := hf.fw S nx x k h1 e1
    exact h2 x k this.2 (by omega) e2
theorem To.step {p : Ps α} {f : α → Ps β} {S : Src} {m : Nat} (h : To p S m) (hf : Sp p) (h2 : 0 < m → ∀ x, To (f x) S (m - 1)) : To (p >>= f) S m := by
  intro nx h1 hm e
  rcases PR.bind_out e with e | ⟨x, k, e1, e2⟩
  · exact h nx h1 hm e
  · have := hf.sp S nx x k h1 e1
    exact h2 (by omega) x k this.2 (by omega) e2
theorem To.pure {x : α} {S : Src} {m : Nat} : To (pure x : Ps α) S m := fun nx _ _ e => by cases e
theorem To.ite {c : Prop} [Decidable c] {a b : Ps α} {S : Src} {m : Nat} (h1 : c → To a S m) (h2 : ¬ c → To b S m) : To (if c then a else b) S m := by
  split
  · exact h1 ‹_›
  · exact h2 ‹_›
end
theorem isT_lt {T : List Tok} {nx : Nat} {t : ByteArray} (h : isT T nx t = true) : nx < T.length := by
  unfold isT peekT at h
  split at h
  · assumption
  · simp at h
theorem peekT_lt {T : List Tok} {sz : Int} {nx : Nat} (h : (peekT T sz nx).kind ≠ 0) : nx < T.length := by
  unfold peekT at h
  split at h
  · assumption
  · exact absurd rfl h
theorem peek_same {T : List Tok} {a b : Int} {nx : Nat} : (peekT T a nx).kind = (peekT T b nx).kind ∧ (peekT T a nx).text = (peekT T b nx).text := by unfold peekT; split <;> simp
section
variable {α : Type}
instance : Fw (outP : Ps α) := ⟨fun _ _ _ _ _ e => by cases e⟩
instance : Sp (outP : Ps α) := ⟨fun _ _ _ _ _ e => by cases e⟩
instance : Fw (failP : Ps α) := ⟨fun _ _ _ _ _ e => by cases e⟩
instance : Sp (failP : Ps α) := ⟨fun _ _ _ _ _ e => by cases e⟩
instance : Fw peekP := ⟨fun _ _ _ _ h e => by cases e; exact ⟨Nat.le_refl _, h⟩⟩
instance : Fw sizeP := ⟨fun _ _ _ _ h e => by cases e; exact ⟨Nat.le_refl _, h⟩⟩
instance : Fw endP := ⟨fun _ _ _ _ h e => by cases e; exact ⟨Nat.le_refl _, h⟩⟩
instance (kd : Int) (t : ByteArray) (a : Int) (ks : List Tree) : Fw (nodeP kd t a ks) := ⟨fun _ _ _ _ h e => by cases e; exact ⟨Nat.le_refl _, h⟩⟩
instance {t : ByteArray} {p q : Ps α} [hp : Fw p] [hq : Fw q] : Fw (isC t p q) := ⟨fun S nx y nx' h e => by
  unfold isC at e
  split at e
  · exact hp.fw S nx y nx' h e
  · exact hq.fw S nx y nx' h e⟩
instance {p q : Ps α} [hp : Fw p] [hq : Fw q] : Fw (moreC p q) := ⟨fun S nx y nx' h e => by
  unfold moreC at e
  split at e
  · exact hp.fw S nx y nx' h e
  · exact hq.fw S nx y nx' h e⟩
instance {t : ByteArray} {p q : Ps α} [hp : Fw p] [hq : Fw q] : Fw (takeC t p q) := ⟨fun S nx y nx' h e => by
  unfold takeC at e
  split at e
  · rename_i h1
    have h3 := isT_lt h1
    have := hp.fw S (nx + 1) y nx' (by omega) e
    exact ⟨by omega, this.2⟩
  · exact hq.fw S nx y nx' h e⟩
theorem isC_sp {t : ByteArray} {p q : Ps α} [hp : Sp p] [hq : Sp q] : Sp (isC t p q) := ⟨fun S nx y nx' h e => by
  unfold isC at e
  split at e
  · exact hp.sp S nx y nx' h e
  · exact hq.sp S nx y nx' h e⟩
/-- A mark that is taken, then something that may be read by what is behind it. -/
theorem takeC_sp {t : ByteArray} {p q : Ps α} [hp : Fw p] [hq : Sp q] : Sp (takeC t p q) := ⟨fun S nx y nx' h e => by
  unfold takeC at e
  split at e
  · rename_i h1
    have h3 := isT_lt h1
    have := hp.fw S (nx + 1) y nx' (by omega) e
    exact ⟨by omega, this.2⟩
  · exact hq.sp S nx y nx' h e⟩
instance (t : ByteArray) : Sp (needP t) := ⟨fun S nx _ _ h e => by
  unfold needP at e
  cases h1 : isT S.T nx t <;> rw [h1] at e <;> cases e
  have := isT_lt h1; omega⟩
instance (t : ByteArray) : Fw (needP t) := Sp.fw'
instance (kd : Int) : Sp (kindP kd) := ⟨fun S nx _ _ h e => by
  unfold kindP at e
  split at e <;> cases e
  omega⟩
instance (kd : Int) : Fw (kindP kd) := Sp.fw'
theorem To.prim {p : Ps α} {S : Src} {m : Nat} (h : ∀ nx, p S nx ≠ .out) : To p S m := fun nx _ _ => h nx
theorem need_out (t : ByteArray) (S : Src) (nx : Nat) : needP t S nx ≠ .out := by unfold needP; split <;> (intro e; cases e)
theorem kind_out (t : Int) (S : Src) (nx : Nat) : kindP t S nx ≠ .out := by unfold kindP; split <;> (intro e; cases e)
theorem To.need {t : ByteArray} {S : Src} {m : Nat} : To (needP t) S m := To.prim (need_out t S)
theorem To.kind {t : Int} {S : Src} {m : Nat} : To (kindP t) S m := To.prim (kind_out t S)
theorem To.peek {S : Src} {m : Nat} : To peekP S m := To.prim fun _ e => by cases e
theorem To.size {S : Src} {m : Nat} : To sizeP S m := To.prim fun _ e => by cases e
theorem To.fail {S : Src} {m : Nat} : To (failP : Ps α) S m := To.prim fun _ e => by cases e
theorem To.endq {S : Src} {m : Nat} : To endP S m := To.prim fun _ e => by cases e
theorem To.node {kd : Int} {t : ByteArray} {a : Int} {ks : List Tree} {S : Src} {m : Nat} : To (nodeP kd t a ks) S m := To.prim fun _ e => by cases e
theorem To.isC {t : ByteArray} {p q : Ps α} {S : Src} {m : Nat} (h1 : To p S m) (h2 : To q S m) : To (isC t p q) S m := by
  intro nx hn hm e
  unfold Ev.isC at e
  split at e
  · exact h1 nx hn hm e
  · exact h2 nx hn hm e
theorem To.more {p q : Ps α} {S : Src} {m : Nat} (h1 : To p S m) (h2 : To q S m) : To (moreC p q) S m := by
  intro nx hn hm e
  unfold moreC at e
  split at e
  · exact h1 nx hn hm e
  · exact h2 nx hn hm e
theorem To.tak {t : ByteArray} {p q : Ps α} {S : Src} {m : Nat} (h1 : 0 < m → To p S (m - 1)) (h2 : To q S m) : To (takeC t p q) S m := by
  intro nx hn hm e
  unfold takeC at e
  split at e
  · rename_i h3
    have h4 := isT_lt h3
    exact h1 (by omega) _ (by omega) (by omega) e
  · exact h2 nx hn hm e
end
instance {p : Ps Tree} [Fw p] : Fw (oneP p) := by unfold oneP; infer_instance
theorem To.one {p : Ps Tree} [Fw p] {S : Src} {m : Nat} (h : To p S m) : To (oneP p) S m := To.bind h inferInstance fun _ => To.pure
instance (tk kd : Int) : Sp (metaP tk kd) := @Sp.bind2 _ _ _ _ _ fun _ => Sp.bind1
instance (tk kd : Int) : Fw (metaP tk kd) := Sp.fw'
theorem To.meta_ {tk kd : Int} {S : Src} {m : Nat} : To (metaP tk kd) S m := To.bind To.peek inferInstance fun _ => To.bind To.kind inferInstance fun _ => To.node
instance (tk kd : Int) (t : Tok) : Sp (leafP tk kd t) := Sp.bind1
instance (tk kd : Int) (t : Tok) : Fw (leafP tk kd t) := Sp.fw'
instance (a b : Int) : Sp (partK a b) := by unfold partK; exact @Sp.bind2 _ _ _ _ _ fun _ => Sp.bind1
instance (a b : Int) : Fw (partK a b) := Sp.fw'
theorem To.partK {a b : Int} {S : Src} {m : Nat} : To (partK a b) S m := To.bind To.peek inferInstance fun _ => To.bind To.kind inferInstance fun _ => To.bind To.need inferInstance fun _ => To.node
instance {α : Type} {p : Tree → Ps α} {q : Ps α} [∀ x, Fw (p x)] [hq : Fw q] : Fw (partC p q) := ⟨fun S nx x nx' h e => by
  unfold partC at e
  split at e
  · exact (inferInstance : Fw (do let x ← partK 7 26; p x)).fw S nx x nx' h e
  · split at e
    · exact (inferInstance : Fw (do let x ← partK 6 25; p x)).fw S nx x nx' h e
    · exact hq.fw S nx x nx' h e⟩
theorem partC_sp {α : Type} {p : Tree → Ps α} {q : Ps α} [∀ x, Fw (p x)] [hq : Sp q] : Sp (partC p q) := ⟨fun S nx x nx' h e => by
  unfold partC at e
  split at e
  · exact (Sp.bind1 : Sp (do let x ← partK 7 26; p x)).sp S nx x nx' h e
  · split at e
    · exact (Sp.bind1 : Sp (do let x ← partK 6 25; p x)).sp S nx x nx' h e
    · exact hq.sp S nx x nx' h e⟩
theorem To.part {α : Type} {p : Tree → Ps α} {q : Ps α} {S : Src} {m : Nat} (h1 : 0 < m → ∀ x, To (p x) S (m - 1)) (h2 : To q S m) : To (partC p q) S m := by
  intro nx h hm e
  have i : ∀ a b : Int, To (do let x ← Ev.partK a b; p x) S m := fun a b => To.step To.partK inferInstance h1
  unfold partC at e
  split at e
  · exact i 7 26 nx h hm e
  · split at e
    · exact i 6 25 nx h hm e
    · exact h2 nx h hm e
instance : Sp nameS := by unfold nameS; exact Sp.bind1
instance : Fw nameS := Sp.fw'
theorem To.nameS {S : Src} {m : Nat} : To nameS S m := To.bind To.kind inferInstance fun _ => To.tak (fun _ => To.bind To.kind inferInstance fun _ => To.pure) To.pure
instance : Sp nameP := by unfold nameP; exact @Sp.bind2 _ _ _ _ _ fun _ => Sp.bind1
instance : Fw nameP := Sp.fw'
theorem To.name {S : Src} {m : Nat} : To nameP S m := To.bind To.peek inferInstance fun _ => To.bind To.nameS inferInstance fun _ => To.node
instance : Sp typP := by unfold typP; have := fun t : Tok => @Sp.ite Tree (t.kind = 6) _ (metaP 6 25) nameP _ _; exact Sp.bind2
instance : Fw typP := Sp.fw'
theorem To.typ {S : Src} {m : Nat} : To typP S m := To.bind To.peek inferInstance fun _ => To.ite (fun _ => To.meta_) fun _ => To.name
instance {one : Ps Tree} [Sp one] : Sp (manyOr one) := by unfold manyOr; have := fun t : Tok => @Sp.ite Tree (t.kind = 7) _ (metaP 7 26) one _ _; exact Sp.bind2
instance {one : Ps Tree} [Sp one] : Fw (manyOr one) := Sp.fw'
theorem To.many {one : Ps Tree} {S : Src} {m : Nat} (h : To one S m) : To (manyOr one) S m := To.bind To.peek inferInstance fun _ => To.ite (fun _ => To.meta_) fun _ => h
theorem row_fw {one : Ps Tree} [Sp one] : ∀ g acc, Fw (rowP one g acc)
  | 0, acc => ⟨fun _ _ _ _ _ e => by cases e⟩
  | g + 1, acc => by
    have := fun x => row_fw (one := one) g (acc ++ [x])
    unfold rowP; infer_instance
instance {one : Ps Tree} [Sp one] (g : Nat) (acc : List Tree) : Fw (rowP one g acc) := row_fw g acc
instance {one : Ps Tree} [Sp one] (g : Nat) (acc : List Tree) : Sp (rowP one g acc) := by
  cases g with
  | zero => exact ⟨fun _ _ _ _ _ e => by cases e⟩
  | succ g => unfold rowP; exact Sp.bind1
theorem To.row {one : Ps Tree} [Sp one] {S : Src} : ∀ {g m : Nat} {acc : List Tree}, m < g → To one S m → To (rowP one g acc) S m
  | 0, m, acc, h, _ => by omega
  | g + 1, m, acc, h, ho => by
    unfold rowP
    refine To.step (To.many ho) inferInstance fun hm x => To.tak (fun _ => To.row (by omega) (ho.mono (by omega))) To.pure
/-- A list has no more elements than there are tokens. -/
theorem row_len {one : Ps Tree} [Sp one] {S : Src} : ∀ {g : Nat} {acc l : List Tree} {nx nx' : Nat}, nx ≤ S.T.length → acc.length ≤ nx → rowP one g acc S nx = .ok l nx' → l.length ≤ nx'
  | 0, acc, l, nx, nx', _, _, e => by cases e
  | g + 1, acc, l, nx, nx', h, hl, e => by
    unfold rowP at e
    obtain ⟨x, m, e1, e2⟩ := PR.bind_ok e
    have h1 := (inferInstance : Sp (manyOr one)).sp S nx x m h e1
    unfold takeC at e2
    dsimp only at e2
    split at e2
    · rename_i h3
      have h4 := isT_lt h3
      exact row_len (by omega) (by simp; omega) e2
    · cases e2; simp; omega
instance : Sp paramP := by unfold paramP; exact @Sp.bind2 _ _ _ _ _ fun _ => Sp.bind1
instance : Fw paramP := Sp.fw'
theorem To.param {S : Src} {m : Nat} : To paramP S m := To.bind To.peek inferInstance fun _ => To.bind To.kind inferInstance fun _ => To.bind To.need inferInstance fun _ => To.bind To.typ inferInstance fun _ => To.node
instance {one : Ps Tree} [Sp one] (g : Nat) : Fw (parensP one g) := by unfold parensP; infer_instance
theorem To.parens {one : Ps Tree} [Sp one] {S : Src} {g m : Nat} (h : m < g) (ho : To one S m) : To (parensP one g) S m := To.isC To.pure (To.row h ho)
theorem parens_len {one : Ps Tree} [Sp one] {S : Src} {g : Nat} {l : List Tree} {nx nx' : Nat} (h : nx ≤ S.T.length) (e : parensP one g S nx = .ok l nx') : l.length ≤ nx' := by
  unfold parensP isC at e
  split at e
  · cases e; simp
  · exact row_len h (by simp) e
section
variable {g : Nat} {E : Ps Tree} [hE : Sp E]
instance : Sp (argsP g E) := by unfold argsP; exact Sp.bind1
instance : Fw (argsP g E) := Sp.fw'
theorem args_len {S : Src} {l : List Tree} {nx nx' : Nat} (h : nx ≤ S.T.length) (e : argsP g E S nx = .ok l nx') : l.length + 1 ≤ nx' := by
  unfold argsP at e
  obtain ⟨u, m, e1, e2⟩ := PR.bind_ok e
  have h1 := (inferInstance : Fw (needP ⟨#[40]⟩)).fw S nx u m h e1
  obtain ⟨l', m2, e3, e4⟩ := PR.bind_ok e2
  have h2 := (inferInstance : Fw (parensP E g)).fw S m l' m2 h1.2 e3
  obtain ⟨u, m3, e5, e6⟩ := PR.bind_ok e4
  have h3 := (inferInstance : Sp (needP ⟨#[41]⟩)).sp S m2 u m3 h2.2 e5
  cases e6
  have := parens_len h1.2 e3
  omega
theorem To.args {S : Src} {m : Nat} (h : m ≤ g) (ho : 0 < m → To E S (m - 1)) : To (argsP g E) S m := by
  unfold argsP
  exact To.step To.need inferInstance fun hm _ => To.bind (To.parens (by omega) (ho hm)) inferInstance fun _ => To.bind To.need inferInstance fun _ => To.pure
local instance : Fw E := Sp.fw'
instance (t : Tok) : Fw (newP g E t) := by unfold newP; infer_instance
instance (t : Tok) : Fw (innerP E t) := by unfold innerP; infer_instance
instance (t : Tok) : Sp (restP g E t) := @takeC_sp _ _ _ _ _ (@takeC_sp _ _ _ _ _ (@takeC_sp _ _ _ _ _ (@takeC_sp _ _ _ _ _ (@takeC_sp _ _ _ _ _ (@takeC_sp _ _ _ _ _ inferInstance)))))
instance : Sp (primaryP g E) := by
  unfold primaryP
  refine @Sp.bind2 _ _ _ _ _ fun t => ?_
  exact @Sp.ite _ _ _ _ _ inferInstance (@Sp.ite _ _ _ _ _ inferInstance (@Sp.ite _ _ _ _ _ inferInstance (@Sp.ite _ _ _ _ _ inferInstance inferInstance)))
instance : Fw (primaryP g E) := Sp.fw'
theorem To.primary {S : Src} {m : Nat} (h : m ≤ g) (ho : 0 < m → To E S (m - 1)) : To (primaryP g E) S m := by
  unfold primaryP
  refine To.bind To.peek inferInstance fun t => ?_
  have i1 : ∀ (k d : Int), To (leafP k d t) S m := fun k d => To.bind To.kind inferInstance fun _ => To.node
  refine To.ite (fun _ => i1 1 15) fun _ => To.ite (fun _ => i1 3 16) fun _ => To.ite (fun _ => i1 4 17) fun _ => To.ite (fun _ => To.meta_) fun _ => ?_
  refine To.tak (fun _ => To.node) (To.tak (fun _ => To.node) (To.tak (fun _ => To.node) (To.tak (fun _ => To.node) (To.tak (fun hm => ?_) (To.tak (fun hm => ?_) To.fail)))))
  · exact To.bind To.nameS inferInstance fun _ => To.bind (To.args (by omega) fun hm' => (ho hm).mono (by omega)) inferInstance fun _ => To.node
  · exact To.bind (ho hm) inferInstance fun _ => To.bind To.need inferInstance fun _ => To.bind To.endq inferInstance fun _ => To.pure
theorem post_fw : ∀ m x, Fw (postP g E m x)
  | 0, x => ⟨fun _ _ _ _ _ e => by cases e⟩
  | m + 1, x => by
    have := fun y => post_fw m y
    unfold postP; infer_instance
instance (m : Nat) (x : Tree) : Fw (postP g E m x) := post_fw m x
theorem To.post {S : Src} : ∀ {k m : Nat} {x : Tree}, m < k → m ≤ g → (0 < m → To E S (m - 1)) → To (postP g E k x) S m
  | 0, m, x, h, _, _ => by omega
  | k + 1, m, x, h, hg, ho => by
    unfold postP
    refine To.tak (fun hm => ?_) (To.isC ?_ To.pure)
    · exact To.bind To.kind inferInstance fun _ => To.bind To.node inferInstance fun _ => To.post (by omega) (by omega) fun hm' => (ho hm).mono (by omega)
    · exact To.step (To.args hg ho) inferInstance fun hm _ => To.bind To.node inferInstance fun _ => To.post (by omega) (by omega) fun hm' => (ho hm).mono (by omega)
instance {U : Ps Tree} [Sp U] (t : Tok) : Fw (signP U t) := by have : Fw U := Sp.fw'; unfold signP; infer_instance
instance {U : Ps Tree} [Sp U] : Sp (unaryB g E U) := by
  unfold unaryB
  exact @Sp.bind2 _ _ _ _ _ fun t => @takeC_sp _ _ _ _ _ (@takeC_sp _ _ _ _ _ Sp.bind1)
theorem To.unaryB {U : Ps Tree} [Sp U] {S : Src} {m : Nat} (h : m < g) (hu : 0 < m → To U S (m - 1)) (ho : 0 < m → To E S (m - 1)) : To (unaryB g E U) S m := by
  have : Fw U := Sp.fw'
  unfold Ev.unaryB
  refine To.bind To.peek inferInstance fun t => To.tak (fun hm => ?_) (To.tak (fun hm => ?_) ?_)
  · exact To.bind (hu hm) inferInstance fun _ => To.node
  · exact To.bind (hu hm) inferInstance fun _ => To.node
  · exact To.bind (To.primary (by omega) ho) inferInstance fun _ => To.post h (by omega) ho
theorem knotU_sp : ∀ m, Sp (knotU g E m)
  | 0 => ⟨fun _ _ _ _ _ e => by cases e⟩
  | m + 1 => by have := knotU_sp m; unfold knotU; infer_instance
instance (m : Nat) : Sp (knotU g E m) := knotU_sp m
theorem To.knotU {S : Src} : ∀ {k m : Nat}, m < k → m < g → (0 < m → To E S (m - 1)) → To (knotU g E k) S m
  | 0, m, h, _, _ => by omega
  | k + 1, m, h, hg, ho => by
    unfold Ev.knotU
    exact To.unaryB hg (fun hm => To.knotU (by omega) (by omega) fun hm' => (ho hm).mono (by omega)) ho
instance : Sp (unaryP g E) := by unfold unaryP; infer_instance
instance : Fw (unaryP g E) := Sp.fw'
theorem To.unary {S : Src} {m : Nat} (h : m < g) (ho : 0 < m → To E S (m - 1)) : To (unaryP g E) S m :=
  To.unaryB h (fun hm => To.knotU (by omega) (by omega) fun hm' => (ho hm).mono (by omega)) ho
theorem bin_fw {ops : List ByteArray} {sub : Ps Tree} [Sp sub] : ∀ m x, Fw (binLoop ops sub m x)
  | 0, x => ⟨fun _ _ _ _ _ e => by cases e⟩
  | m + 1, x => by
    have := fun y => bin_fw (ops := ops) (sub := sub) m y
    have : Fw sub := Sp.fw'
    unfold binLoop; infer_instance
instance {ops : List ByteArray} {sub : Ps Tree} [Sp sub] (m : Nat) (x : Tree) : Fw (binLoop ops sub m x) := bin_fw m x
theorem To.binLoop {ops : List ByteArray} {sub : Ps Tree} [Sp sub] {S : Src} : ∀ {k m : Nat} {x : Tree}, m < k → (0 < m → To sub S (m - 1)) → To (binLoop ops sub k x) S m
  | 0, m, x, h, _ => by omega
  | k + 1, m, x, h, ho => by
    have : Fw sub := Sp.fw'
    unfold Ev.binLoop
    refine To.bind To.peek inferInstance fun t => To.ite (fun _ => ?_) fun _ => To.pure
    exact To.step To.kind inferInstance fun hm _ => To.bind (ho hm) inferInstance fun _ => To.bind To.node inferInstance fun _ => To.binLoop (by omega) fun hm' => (ho hm).mono (by omega)
theorem bin_sp : ∀ l, Sp (binP g E l)
  | [] => by unfold binP; infer_instance
  | ops :: r => by have := bin_sp r; unfold binP; exact Sp.bind1
instance (l : List (List ByteArray)) : Sp (binP g E l) := bin_sp l
theorem To.bin {S : Src} {m : Nat} (h : m < g) (ho : 0 < m → To E S (m - 1)) : ∀ l, To (binP g E l) S m
  | [] => by unfold binP; exact To.unary h ho
  | ops :: r => by
    unfold binP
    exact To.bind (To.bin h ho r) Sp.fw' fun x => To.binLoop h fun hm => (To.bin h ho r).mono (by omega)
instance : Sp (exprB g E) := by unfold exprB; infer_instance
end
theorem knotE_sp {g : Nat} : ∀ m, Sp (knotE g m)
  | 0 => ⟨fun _ _ _ _ _ e => by cases e⟩
  | m + 1 => by have := knotE_sp (g := g) m; unfold knotE; infer_instance
instance (g m : Nat) : Sp (knotE g m) := knotE_sp m
theorem To.knotE {g : Nat} {S : Src} : ∀ {k m : Nat}, m < k → m < g → To (knotE g k) S m
  | 0, m, h, _ => by omega
  | k + 1, m, h, hg => by
    unfold Ev.knotE
    exact To.bin hg (fun hm => To.knotE (by omega) (by omega)) levels
instance (g : Nat) : Sp (exprP g) := by unfold exprP; infer_instance
instance (g : Nat) : Fw (exprP g) := Sp.fw'
theorem To.expr {g : Nat} {S : Src} {m : Nat} (h : m < g) : To (exprP g) S m := To.bin h (fun hm => To.knotE (by omega) (by omega)) levels
instance (g : Nat) : Sp (variableP g) := by unfold variableP; exact @Sp.bind2 _ _ _ _ _ fun _ => Sp.bind1
instance (g : Nat) : Fw (variableP g) := Sp.fw'
theorem To.opt {p : Ps Tree} {S : Src} {m : Nat} {t : ByteArray} [Fw p] (h : To p S m) : To (takeC (α := List Tree) t (oneP p) (Pure.pure [])) S m := To.tak (fun _ => (To.one h).mono (by omega)) To.pure
theorem To.variable_ {g : Nat} {S : Src} {m : Nat} (h : m < g) : To (variableP g) S m := by
  unfold variableP
  exact To.bind To.peek inferInstance fun _ => To.bind To.need inferInstance fun _ => To.bind To.kind inferInstance fun _ => To.bind To.need inferInstance fun _ => To.bind To.typ inferInstance fun _ =>
    To.bind To.endq inferInstance fun _ => To.bind (To.opt (To.expr h)) inferInstance fun _ => To.bind To.need inferInstance fun _ => To.node
instance (g : Nat) : Sp (condP g) := by unfold condP; exact Sp.bind1
instance (g : Nat) : Fw (condP g) := Sp.fw'
theorem To.cond {g : Nat} {S : Src} {m : Nat} (h : m < g) : To (condP g) S m := by
  unfold condP
  exact To.bind To.need inferInstance fun _ => To.bind (To.expr h) inferInstance fun _ => To.bind To.need inferInstance fun _ => To.pure
section
variable {g : Nat} {R : Ps Tree} [hR : Sp R]
local instance : Fw R := Sp.fw'
theorem stmts_fw : ∀ m acc, Fw (stmtsP R m acc)
  | 0, x => ⟨fun _ _ _ _ _ e => by cases e⟩
  | m + 1, x => by
    have := fun y => stmts_fw m y
    unfold stmtsP; infer_instance
instance (m : Nat) (l : List Tree) : Fw (stmtsP R m l) := stmts_fw m l
theorem To.stmts {S : Src} : ∀ {k m : Nat} {l : List Tree}, m < k → To R S m → To (stmtsP R k l) S m
  | 0, m, l, h, _ => by omega
  | k + 1, m, l, h, ho => by
    unfold stmtsP
    exact To.isC To.pure (To.step ho inferInstance fun hm _ => To.stmts (by omega) (ho.mono (by omega)))
instance : Sp (blockB g R) := by unfold blockB; exact @Sp.bind2 _ _ _ _ _ fun _ => Sp.bind1
instance : Fw (blockB g R) := Sp.fw'
theorem To.blockB {S : Src} {m : Nat} (h : m < g) (ho : 0 < m → To R S (m - 1)) : To (blockB g R) S m := by
  unfold Ev.blockB
  exact To.bind To.peek inferInstance fun _ => To.step To.need inferInstance fun hm _ => To.bind (To.stmts (by omega) (ho hm)) inferInstance fun _ => To.bind To.need inferInstance fun _ => To.node
instance (t : Tok) : Fw (returnP g t) := by unfold returnP; infer_instance
instance (t : Tok) : Fw (ifP g R t) := by unfold ifP; infer_instance
instance (t : Tok) : Fw (whileP g R t) := by unfold whileP; infer_instance
instance (t : Tok) : Sp (setP g t) := by unfold setP; exact Sp.bind1
instance : Sp (stmtB g R) := by
  unfold stmtB
  exact @Sp.bind2 _ _ _ _ _ fun t => @partC_sp _ _ _ _ (@isC_sp _ _ _ _ _ (@isC_sp _ _ _ _ _ (@takeC_sp _ _ _ _ _ (@takeC_sp _ _ _ _ _ (@takeC_sp _ _ _ _ _ inferInstance)))))
instance : Fw (stmtB g R) := Sp.fw'
theorem To.stmtB {S : Src} {m : Nat} (h : m < g) (ho : 0 < m → To R S (m - 1)) : To (stmtB g R) S m := by
  have i1 : ∀ k, k ≤ m → To (Ev.blockB g R) S k := fun k hk => To.blockB (by omega) fun h' => (ho (by omega)).mono (by omega)
  unfold Ev.stmtB
  refine To.bind To.peek inferInstance fun t => To.part (fun _ _ => To.pure) (To.isC (To.variable_ h) (To.isC (i1 _ (by omega)) (To.tak (fun hm => ?_) (To.tak (fun hm => ?_) (To.tak (fun hm => ?_) ?_)))))
  · exact To.bind (To.isC To.pure (To.one (To.expr (m := m - 1) (by omega)))) inferInstance fun _ => To.bind To.need inferInstance fun _ => To.node
  · exact To.bind (To.cond (by omega)) inferInstance fun _ => To.bind (i1 _ (by omega)) inferInstance fun _ => To.bind To.endq inferInstance fun _ => To.bind (To.opt (i1 _ (by omega))) inferInstance fun _ => To.node
  · exact To.bind (To.cond (by omega)) inferInstance fun _ => To.bind (i1 _ (by omega)) inferInstance fun _ => To.node
  · refine To.bind (To.expr h) inferInstance fun _ => To.tak (fun hm => ?_) ?_
    · exact To.bind (To.expr (by omega)) inferInstance fun _ => To.bind To.need inferInstance fun _ => To.node
    · exact To.bind To.need inferInstance fun _ => To.node
end
theorem knotS_sp {g : Nat} : ∀ m, Sp (knotS g m)
  | 0 => ⟨fun _ _ _ _ _ e => by cases e⟩
  | m + 1 => by have := knotS_sp (g := g) m; unfold knotS; infer_instance
instance (g m : Nat) : Sp (knotS g m) := knotS_sp m
theorem To.knotS {g : Nat} {S : Src} : ∀ {k m : Nat}, m < k → m < g → To (knotS g k) S m
  | 0, m, h, _ => by omega
  | k + 1, m, h, hg => by
    unfold Ev.knotS
    exact To.stmtB hg (fun hm => To.knotS (by omega) (by omega))
instance (g : Nat) : Sp (stmtP g) := by unfold stmtP; infer_instance
instance (g : Nat) : Fw (stmtP g) := Sp.fw'
instance (g : Nat) : Sp (blockP g) := by unfold blockP; infer_instance
instance (g : Nat) : Fw (blockP g) := Sp.fw'
theorem To.stmt {g : Nat} {S : Src} {m : Nat} (h : m < g) : To (stmtP g) S m := To.stmtB h fun hm => To.knotS (by omega) (by omega)
theorem To.block {g : Nat} {S : Src} {m : Nat} (h : m < g) : To (blockP g) S m := To.blockB h fun hm => To.knotS (by omega) (by omega)
instance (g : Nat) (w : Bool) : Sp (funP g w) := by unfold funP; exact @Sp.bind2 _ _ _ _ _ fun _ => Sp.bind1
instance (g : Nat) (w : Bool) : Fw (funP g w) := Sp.fw'
theorem To.fun_ {g : Nat} {S : Src} {m : Nat} {w : Bool} (h : m < g) : To (funP g w) S m := by
  unfold funP
  exact To.bind To.peek inferInstance fun _ => To.bind To.need inferInstance fun _ => To.bind To.kind inferInstance fun _ => To.bind To.need inferInstance fun _ => To.bind To.endq inferInstance fun _ => To.bind (To.parens h To.param) inferInstance fun _ =>
    To.bind To.need inferInstance fun _ => To.bind To.endq inferInstance fun _ => To.bind (To.opt To.typ) inferInstance fun _ => To.bind To.endq inferInstance fun _ =>
    To.ite (fun _ => To.bind (To.block h) inferInstance fun _ => To.node) fun _ => To.bind To.need inferInstance fun _ => To.node
instance (g : Nat) : Sp (memberP g) := isC_sp
theorem To.member {g : Nat} {S : Src} {m : Nat} (h : m < g) : To (memberP g) S m := To.isC (To.variable_ h) (To.fun_ h)
section
variable {g : Nat} {R : Ps Tree} [hR : Sp R]
local instance : Fw R := Sp.fw'
theorem members_fw : ∀ m acc, Fw (membersP R m acc)
  | 0, x => ⟨fun _ _ _ _ _ e => by cases e⟩
  | m + 1, x => by
    have := fun y => members_fw m y
    unfold membersP; infer_instance
instance (m : Nat) (l : List Tree) : Fw (membersP R m l) := members_fw m l
theorem To.members {S : Src} : ∀ {k m : Nat} {l : List Tree}, m < k → To R S m → To (membersP R k l) S m
  | 0, m, l, h, _ => by omega
  | k + 1, m, l, h, ho => by
    have ih : 0 < m → ∀ x, To (membersP R k (l ++ [x])) S (m - 1) := fun hm x => To.members (by omega) (ho.mono (by omega))
    unfold membersP
    exact To.isC To.pure (To.bind To.peek inferInstance fun t => To.ite (fun _ => To.step To.partK inferInstance ih) fun _ => To.part ih (To.step ho inferInstance ih))
theorem members_len {S : Src} : ∀ {k : Nat} {acc l : List Tree} {nx nx' : Nat}, nx ≤ S.T.length → acc.length ≤ nx → membersP R k acc S nx = .ok l nx' → l.length ≤ nx'
  | 0, acc, l, nx, nx', _, _, e => by cases e
  | k + 1, acc, l, nx, nx', h, hl, e => by
    have ih : ∀ x m, nx + 1 ≤ m → m ≤ S.T.length → membersP R k (acc ++ [x]) S m = .ok l nx' → l.length ≤ nx' := fun x m h1 h2 h3 => members_len h2 (by simp; omega) h3
    have hp : ∀ a b, Ps.seq (partK a b) (fun x => membersP R k (acc ++ [x])) S nx = .ok l nx' → l.length ≤ nx' := fun a b e => by
      obtain ⟨x, m, e1, e2⟩ := PR.bind_ok e
      have h1 := (inferInstance : Sp (partK a b)).sp S nx x m h e1
      exact ih x m h1.1 h1.2 e2
    unfold membersP isC at e
    split at e
    · cases e; omega
    · obtain ⟨t, m, e1, e2⟩ := PR.bind_ok e
      cases e1
      dsimp only at e2
      rw [Ps.ite_ap] at e2
      split at e2
      · exact hp 6 25 e2
      · unfold partC at e2
        split at e2
        · exact hp 7 26 e2
        · split at e2
          · exact hp 6 25 e2
          · obtain ⟨x, m, e1, e3⟩ := PR.bind_ok e2
            have h1 := hR.sp S nx x m h e1
            exact ih x m h1.1 h1.2 e3
instance : Sp (bodyP R g) := by unfold bodyP; exact Sp.bind1
instance : Fw (bodyP R g) := Sp.fw'
theorem To.body {S : Src} {m : Nat} (h : m < g) (ho : To R S m) : To (bodyP R g) S m := To.bind To.need inferInstance fun _ => To.bind To.endq inferInstance fun _ => To.bind (To.members h ho) inferInstance fun _ => To.pure
end
theorem To.rows {S : Src} {g m : Nat} {t : ByteArray} (h : m < g) : To (takeC (α := List Tree) t (rowP typP g []) (Pure.pure [])) S m := To.tak (fun _ => To.row (by omega) To.typ) To.pure
instance (g : Nat) : Sp (classP g) := by unfold classP; exact @Sp.bind2 _ _ _ _ _ fun _ => Sp.bind1
theorem To.class_ {g : Nat} {S : Src} {m : Nat} (h : m < g) : To (classP g) S m := by
  unfold classP
  exact To.bind To.peek inferInstance fun _ => To.bind To.need inferInstance fun _ => To.bind To.kind inferInstance fun _ => To.bind To.endq inferInstance fun _ => To.bind (To.opt To.typ) inferInstance fun _ => To.bind To.endq inferInstance fun _ =>
    To.bind (To.rows h) inferInstance fun _ => To.bind (To.body h (To.member h)) inferInstance fun _ => To.bind To.need inferInstance fun _ => To.node
instance (g : Nat) : Sp (ifaceP g) := by unfold ifaceP; exact @Sp.bind2 _ _ _ _ _ fun _ => Sp.bind1
theorem To.iface {g : Nat} {S : Src} {m : Nat} (h : m < g) : To (ifaceP g) S m := by
  unfold ifaceP
  exact To.bind To.peek inferInstance fun _ => To.bind To.need inferInstance fun _ => To.bind To.kind inferInstance fun _ => To.bind To.endq inferInstance fun _ => To.bind (To.rows h) inferInstance fun _ =>
    To.bind (To.body h (To.fun_ h)) inferInstance fun _ => To.bind To.need inferInstance fun _ => To.node
instance (g : Nat) : Sp (declP g) := @isC_sp _ _ _ _ _ (@isC_sp _ _ _ _ _ (@isC_sp _ _ _ _ _ (@isC_sp _ _ _ _ _ inferInstance)))
instance (g : Nat) : Fw (declP g) := Sp.fw'
theorem To.decl {g : Nat} {S : Src} {m : Nat} (h : m < g) : To (declP g) S m := To.isC (To.class_ h) (To.isC (To.iface h) (To.isC (To.fun_ h) (To.isC (To.variable_ h) To.fail)))
instance : Sp importP := by unfold importP; exact @Sp.bind2 _ _ _ _ _ fun _ => Sp.bind1
instance : Fw importP := Sp.fw'
theorem To.import_ {S : Src} {m : Nat} : To importP S m := To.bind To.peek inferInstance fun _ => To.bind To.need inferInstance fun _ => To.bind To.kind inferInstance fun _ => To.bind To.need inferInstance fun _ => To.node
theorem imports_fw : ∀ m l, Fw (importsP m l)
  | 0, l => ⟨fun _ _ _ _ _ e => by cases e⟩
  | m + 1, l => by
    have := fun y => imports_fw m y
    unfold importsP; infer_instance
instance (m : Nat) (l : List Tree) : Fw (importsP m l) := imports_fw m l
theorem To.imports {S : Src} : ∀ {k m : Nat} {l : List Tree}, m < k → To (importsP k l) S m
  | 0, m, l, h => by omega
  | k + 1, m, l, h => by
    unfold importsP
    exact To.isC (To.step To.import_ inferInstance fun hm _ => To.imports (by omega)) To.pure
theorem decls_fw {g : Nat} : ∀ m l, Fw (declsP g m l)
  | 0, l => ⟨fun _ _ _ _ _ e => by cases e⟩
  | m + 1, l => by
    have := fun y => decls_fw (g := g) m y
    unfold declsP; infer_instance
instance (g m : Nat) (l : List Tree) : Fw (declsP g m l) := decls_fw m l
theorem To.decls {S : Src} {g : Nat} : ∀ {k m : Nat} {l : List Tree}, m < k → m < g → To (declsP g k l) S m
  | 0, m, l, h, _ => by omega
  | k + 1, m, l, h, hg => by
    unfold declsP
    exact To.more (To.step (To.decl hg) inferInstance fun hm _ => To.decls (by omega) (by omega)) To.pure
instance (g : Nat) : Fw (moduleP g) := by unfold moduleP; infer_instance
theorem To.module_ {S : Src} {g m : Nat} (h : m < g) : To (moduleP g) S m :=
  To.bind (To.imports h) inferInstance fun _ => To.bind (To.decls h h) inferInstance fun _ => To.bind To.size inferInstance fun _ => To.pure
theorem To.whole {p : Ps Tree} [Fw p] {S : Src} {m : Nat} (h : To p S m) : To (wholeP p) S m :=
  To.bind h inferInstance fun _ => To.more To.fail To.pure
end Go.Ev
namespace Go.Ev
open PV
def pfxL (p l : List UInt8) : Bool := p.isPrefixOf l
def isDigitI (c : Int) : Bool := decide (48 ≤ c) && decide (c ≤ 57)
def isLetterI (c : Int) : Bool := (decide (97 ≤ c) && decide (c ≤ 122)) || (decide (65 ≤ c) && decide (c ≤ 90)) || c == 95
def isWordB (b : UInt8) : Bool := isLetterI b.toNat || isDigitI b.toNat
def isDigitB (b : UInt8) : Bool := isDigitI b.toNat
def blankI (c : Int) : Bool := c == 32 || c == 9 || c == 10
def wordLen (l : List UInt8) : Nat := (l.takeWhile isWordB).length
def digLen (l : List UInt8) : Nat := (l.takeWhile isDigitB).length

theorem wordLen_le (l : List UInt8) : wordLen l ≤ l.length := (List.takeWhile_sublist _).length_le
theorem digLen_le (l : List UInt8) : digLen l ≤ l.length := (List.takeWhile_sublist _).length_le
theorem wordLen_cons (c : UInt8) (l : List UInt8) : wordLen (c :: l) = if isWordB c then wordLen l + 1 else 0 := by
  unfold wordLen
  rw [List.takeWhile_cons]
  cases isWordB c <;> simp
theorem digLen_cons (c : UInt8) (l : List UInt8) : digLen (c :: l) = if isDigitB c then digLen l + 1 else 0 := by
  unfold digLen
  rw [List.takeWhile_cons]
  cases isDigitB c <;> simp

/-- The keywords and the marks. -/
def kwL : List (List UInt8) := [[105, 109, 112, 111, 114, 116], [99, 108, 97, 115, 115], [105, 110, 116, 101, 114, 102, 97, 99, 101], [101, 120, 116, 101, 110, 100, 115], [105, 109, 112, 108, 101, 109, 101, 110, 116, 115], [102, 117, 110, 99], [118, 97, 114], [114, 101, 116, 117, 114, 110], [105, 102], [101, 108, 115, 101], [119, 104, 105, 108, 101], [110, 101, 119], [116, 114, 117, 101], [102, 97, 108, 115, 101], [110, 117, 108, 108], [116, 104, 105, 115]]
def markL : List (List UInt8) := [[123], [125], [40], [41], [59], [44], [58], [46], [61], [61, 61], [33, 61], [60], [62], [43], [45], [42], [47], [37], [33], [38, 38], [124, 124]]
def isKwL (l : List UInt8) : Bool := kwL.any (l == ·)
def isMarkL (l : List UInt8) : Bool := markL.any (l == ·)
/-- A name, of any length. -/
def nameL (l : List UInt8) : Bool := (match l with | [] => false | c :: _ => isLetterI c.toNat) && wordLen l == l.length && !isKwL l

/-- The token at the beginning of a text: its error (0: none), kind, text and length. -/
structure RK where
  err : Int
  kind : Int
  text : List UInt8
  len : Nat
deriving DecidableEq
def RK.bad (e : Int) : RK := ⟨e, 0, [], 0⟩
def intR (l : List UInt8) : RK := if l.head? == some 48 && decide (1 < digLen l) then .bad 11 else if 9 < digLen l then .bad 4 else ⟨0, 3, l.take (digLen l), digLen l⟩
/-- A literal, from behind its first quotation mark on: n bytes of it are read, which mean acc. -/
def litGo : List UInt8 → Nat → List UInt8 → RK
  | [], _, _ => .bad 11
  | c :: t, n, acc =>
    if c.toNat = 34 then if 60 < acc.length then .bad 4 else ⟨0, 4, acc, n + 1⟩
    else if c.toNat < 32 ∨ 126 < c.toNat then .bad 11
    else if c.toNat = 92 then
      match t with
      | [] => .bad 11
      | d :: u => if d.toNat = 34 ∨ d.toNat = 92 then litGo u (n + 2) (acc ++ [d]) else if d.toNat = 110 then litGo u (n + 2) (acc ++ [10]) else .bad 11
    else litGo t (n + 1) (acc ++ [c])
def litR (l : List UInt8) : RK := litGo (l.drop 1) 1 []
def metaN (l : List UInt8) : Nat := if (l.drop 1).head? = some 36 then 2 else 1
def metaT (l : List UInt8) : List UInt8 := (l.drop (metaN l)).take (wordLen (l.drop (metaN l)))
def metaR (l : List UInt8) : RK := if !nameL (metaT l) then .bad 11 else if 24 < (metaT l).length then .bad 4 else ⟨0, if metaN l = 2 then 7 else 6, metaT l, metaN l + (metaT l).length⟩
def markR (l : List UInt8) : RK := if isMarkL (l.take 2) then ⟨0, 5, l.take 2, (l.take 2).length⟩ else if isMarkL (l.take 1) then ⟨0, 5, l.take 1, 1⟩ else .bad 11
def wordT (l : List UInt8) : List UInt8 := l.take (wordLen l)
def wordR (l : List UInt8) : RK := if isKwL (wordT l) then ⟨0, 2, wordT l, (wordT l).length⟩ else if 24 < (wordT l).length then .bad 4 else ⟨0, 1, wordT l, (wordT l).length⟩
def rdTok (pat : Bool) (l : List UInt8) : RK :=
  match l with
  | [] => .bad 11
  | c :: _ =>
    if isLetterI c.toNat then wordR l
    else if isDigitI c.toNat then intR l
    else if c.toNat = 34 then litR l
    else if c.toNat = 36 ∧ pat = true then metaR l
    else markR l

/-- How many blanks and bytes of comments; inside: in a comment. -/
def skipGo (inside : Bool) : List UInt8 → Nat
  | [] => 0
  | c :: t =>
    if inside then if c.toNat = 10 then skipGo false t + 1 else skipGo true t + 1
    else if blankI c.toNat then skipGo false t + 1
    else if c.toNat = 47 ∧ (t.head?.map (·.toNat)) = some 47 then skipGo true t + 1
    else 0

/-- The answer of a scan: its tokens, or the offset and the error. -/
structure SR where
  toks : List Tok
  at_ : Int
  err : Int
def tx (l : List UInt8) : ByteArray := ⟨l.toArray⟩
def scanW (pat : Bool) : Nat → List UInt8 → Nat → List Tok → SR
  | 0, _, _, acc => ⟨acc, 0, 0⟩
  | f + 1, l, at_, acc =>
    match l with
    | [] => ⟨acc, 0, 0⟩
    | _ =>
      if (rdTok pat l).err = 0 then
        if 600 ≤ acc.length then ⟨[], at_, 4⟩
        else scanW pat f ((l.drop (rdTok pat l).len).drop (skipGo false (l.drop (rdTok pat l).len))) (at_ + (rdTok pat l).len + skipGo false (l.drop (rdTok pat l).len))
          (acc ++ [⟨(rdTok pat l).kind, tx (rdTok pat l).text, at_, (at_ + (rdTok pat l).len : Nat)⟩])
      else ⟨[], at_, (rdTok pat l).err⟩
def scanR (pat : Bool) (l : List UInt8) : SR := scanW pat (l.length + 1) (l.drop (skipGo false l)) (skipGo false l) []

theorem skipGo_le : ∀ (l : List UInt8) (b : Bool), skipGo b l ≤ l.length
  | [], b => by simp [skipGo]
  | c :: t, b => by
    have h1 := skipGo_le t true
    have h2 := skipGo_le t false
    unfold skipGo
    simp only [List.length_cons]
    split <;> split <;> first | omega | (split <;> omega)

theorem skipGo_cons (b : Bool) (c : UInt8) (t : List UInt8) : skipGo b (c :: t) =
    if b then if c.toNat = 10 then skipGo false t + 1 else skipGo true t + 1
    else if blankI c.toNat then skipGo false t + 1
    else if c.toNat = 47 ∧ (t.head?.map (·.toNat)) = some 47 then skipGo true t + 1
    else 0 := rfl
/-- A comment's begin: from there on it is as in a comment. -/
theorem skipGo_slash (l : List UInt8) (h : pfxL [47, 47] l = true) : skipGo false l = skipGo true l := by
  match l, h with
  | [], h => simp [pfxL, List.isPrefixOf] at h
  | [a], h => simp [pfxL, List.isPrefixOf] at h
  | a :: b :: t, h =>
    simp [pfxL, List.isPrefixOf] at h
    obtain ⟨rfl, rfl⟩ := h
    simp [skipGo, blankI]
theorem skipGo_none : ∀ (l : List UInt8), (∀ k : Nat, l[k]? ≠ some 10) → skipGo true l = l.length
  | [], _ => rfl
  | c :: t, h => by
    have h0 : c.toNat ≠ 10 := fun e => h 0 (by simp; exact UInt8.toNat_inj.1 e)
    rw [skipGo_cons, if_pos rfl, if_neg h0, skipGo_none t (fun k => by simpa using h (k + 1))]
    rfl
theorem skipGo_some : ∀ (l : List UInt8) (o : Nat), l[o]? = some 10 → (∀ k : Nat, k < o → l[k]? ≠ some 10) → skipGo true l = o + skipGo false (l.drop o)
  | [], o, h, _ => by simp at h
  | c :: t, 0, h, _ => by
    simp at h
    subst h
    simp [skipGo_cons, blankI]
  | c :: t, o + 1, h, hk => by
    have h0 : c.toNat ≠ 10 := fun e => hk 0 (by omega) (by simp; exact UInt8.toNat_inj.1 e)
    rw [skipGo_cons, if_pos rfl, if_neg h0, skipGo_some t o (by simpa using h) (fun k hk1 => by simpa using hk (k + 1) (by omega))]
    simp
    omega
theorem skipGo_stop (l : List UInt8) (c : UInt8) (t : List UInt8) (hl : l = c :: t) (hb : blankI c.toNat = false) (h : pfxL [47, 47] l = false) : skipGo false l = 0 := by
  subst hl
  rw [skipGo_cons, if_neg (by simp), if_neg (by simp [hb])]
  rw [if_neg]
  rintro ⟨h1, h2⟩
  have e1 : c = 47 := UInt8.toNat_inj.1 h1
  subst e1
  cases t with
  | nil => simp at h2
  | cons d u =>
    simp at h2
    have e2 : d = 47 := UInt8.toNat_inj.1 h2
    subst e2
    simp [pfxL, List.isPrefixOf] at h

theorem byte_at (s : ByteArray) (k : Nat) (h : k < s.size) : s.data.toList.drop k = s[k] :: s.data.toList.drop (k + 1) := by
  have h' : k < s.data.toList.length := by simpa using h
  rw [List.drop_eq_getElem_cons h']; rfl
theorem len_data (s : ByteArray) : s.data.toList.length = s.size := by rw [Array.length_toList]; rfl
theorem ba_ext {a b : ByteArray} (h : a.data.toList = b.data.toList) : a = b := by
  obtain ⟨⟨a⟩⟩ := a
  obtain ⟨⟨b⟩⟩ := b
  simp at h
  rw [h]
theorem tx_list (l : List UInt8) : (tx l).data.toList = l := rfl
theorem tx_data (s : ByteArray) : tx s.data.toList = s := ba_ext rfl
theorem tx_size (l : List UInt8) : (tx l).size = l.length := by simp [tx, ByteArray.size]
theorem ext_tx (s : ByteArray) (a b : Nat) : s.extract a b = tx ((s.data.toList.drop a).take (b - a)) := ba_ext (Lib.extract_data s a b)
theorem ext0_tx (s : ByteArray) (b : Nat) : s.extract 0 b = tx (s.data.toList.take b) := by rw [ext_tx]; rfl
theorem extE_list (s : ByteArray) (a : Nat) : (s.extract a s.size).data.toList = s.data.toList.drop a := by
  rw [Lib.extract_data, List.take_of_length_le]
  rw [List.length_drop, len_data]
  omega
theorem str_eqb (a b : ByteArray) : (a.toList == b.toList) = (a.data.toList == b.data.toList) := by rw [Lib.toList_data, Lib.toList_data]
theorem isKw_list (l : List (List UInt8)) (s : ByteArray) : (l.map tx).any (s == ·) = l.any (s.data.toList == ·) := by
  rw [List.any_map]
  congr 1
  funext x
  show (s == tx x) = (s.data.toList == x)
  rw [Bool.eq_iff_iff]
  rw [MapKept.bytes_beq, beq_iff_eq]
  exact ⟨fun h => by rw [h]; rfl, fun h => by rw [← h]; exact (tx_data s).symm⟩
/-! The same on strings: no rule of the walk looks into these. -/
end Go.Ev
namespace Go.Ev
open PV
def scanV (r : SR) : PV := .tup [.list false (r.toks.map tokRow), .int .i64 r.at_, .int .i64 r.err]
section
variable {c d : UInt8} {t u : List UInt8} {n : Nat} {acc : List UInt8}
theorem litGo_q (h : c.toNat = 34) : litGo (c :: t) n acc = if 60 < acc.length then .bad 4 else ⟨0, 4, acc, n + 1⟩ := by
  cases t <;> simp [litGo, h]
theorem litGo_bad (h : c.toNat ≠ 34) (h2 : c.toNat < 32 ∨ 126 < c.toNat) : litGo (c :: t) n acc = .bad 11 := by
  cases t <;> simp [litGo, h, h2]
theorem litGo_end (h : c.toNat = 92) : litGo [c] n acc = .bad 11 := by simp [litGo, h]
theorem litGo_esc (h : c.toNat = 92) (h2 : d.toNat = 34 ∨ d.toNat = 92) : litGo (c :: d :: u) n acc = litGo u (n + 2) (acc ++ [d]) := by
  rw [litGo]; simp [h, h2]
theorem litGo_escn (h : c.toNat = 92) (h2 : d.toNat = 110) : litGo (c :: d :: u) n acc = litGo u (n + 2) (acc ++ [10]) := by
  rw [litGo]; simp [h, h2]
theorem litGo_escx (h : c.toNat = 92) (h1 : d.toNat ≠ 34) (h2 : d.toNat ≠ 92) (h3 : d.toNat ≠ 110) : litGo (c :: d :: u) n acc = .bad 11 := by
  rw [litGo]; simp [h, h1, h2, h3]
theorem litGo_ch (h : c.toNat ≠ 34) (h1 : 32 ≤ c.toNat) (h2 : c.toNat ≤ 126) (h3 : c.toNat ≠ 92) : litGo (c :: t) n acc = litGo t (n + 1) (acc ++ [c]) := by
  cases t <;> simp [litGo, h, h3] <;> omega
end

theorem litGo_len : ∀ (k : Nat) (l : List UInt8) (n : Nat) (acc : List UInt8), l.length ≤ k → (litGo l n acc).err = 0 → n < (litGo l n acc).len ∧ (litGo l n acc).len ≤ n + l.length
  | 0, [], n, acc, _, h => by simp [litGo, RK.bad] at h
  | 0, c :: t, n, acc, hk, h => by simp at hk
  | k + 1, [], n, acc, _, h => by simp [litGo, RK.bad] at h
  | k + 1, c :: t, n, acc, hk, h => by
    simp only [List.length_cons] at hk ⊢
    by_cases h1 : c.toNat = 34
    · rw [litGo_q h1] at h ⊢
      split at h
      · simp [RK.bad] at h
      · rename_i hx
        rw [if_neg hx]
        simp only
        omega
    · by_cases h2 : c.toNat < 32 ∨ 126 < c.toNat
      · rw [litGo_bad h1 h2] at h; simp [RK.bad] at h
      · by_cases h3 : c.toNat = 92
        · cases t with
          | nil => rw [litGo_end h3] at h; simp [RK.bad] at h
          | cons d u =>
            simp only [List.length_cons] at hk ⊢
            by_cases h4 : d.toNat = 34 ∨ d.toNat = 92
            · rw [litGo_esc h3 h4] at h ⊢
              have := litGo_len k u (n + 2) _ (by omega) h
              omega
            · by_cases h5 : d.toNat = 110
              · rw [litGo_escn h3 h5] at h ⊢
                have := litGo_len k u (n + 2) _ (by omega) h
                omega
              · rw [litGo_escx h3 (by omega) (by omega) h5] at h; simp [RK.bad] at h
        · rw [litGo_ch h1 (by omega) (by omega) h3] at h ⊢
          have := litGo_len k t (n + 1) _ (by omega) h
          omega
theorem wordLen_pos (c : UInt8) (t : List UInt8) (h : isLetterI c.toNat = true) : 0 < wordLen (c :: t) := by
  rw [wordLen_cons, if_pos (by unfold isWordB; rw [h]; rfl)]
  omega
theorem rdTok_len (pat : Bool) (l : List UInt8) (h : (rdTok pat l).err = 0) : 0 < (rdTok pat l).len ∧ (rdTok pat l).len ≤ l.length := by
  cases l with
  | nil => simp [rdTok, RK.bad] at h
  | cons c t =>
    have hw := wordLen_le (c :: t)
    have hd := digLen_le (c :: t)
    unfold rdTok at h ⊢
    simp only at h ⊢
    by_cases h1 : isLetterI c.toNat = true
    · rw [if_pos h1] at h ⊢
      have hp := wordLen_pos c t h1
      have hl : (wordT (c :: t)).length = wordLen (c :: t) := by unfold wordT; rw [List.length_take]; omega
      unfold wordR at h ⊢
      by_cases h2 : isKwL (wordT (c :: t)) = true
      · rw [if_pos h2]; simp only; omega
      · rw [if_neg h2] at h ⊢
        by_cases h3 : 24 < (wordT (c :: t)).length
        · rw [if_pos h3] at h; simp [RK.bad] at h
        · rw [if_neg h3]; simp only; omega
    · rw [if_neg h1] at h ⊢
      by_cases h2 : isDigitI c.toNat = true
      · rw [if_pos h2] at h ⊢
        have hp : 0 < digLen (c :: t) := by rw [digLen_cons, if_pos (show isDigitB c = true from h2)]; omega
        unfold intR at h ⊢
        split at h
        · simp [RK.bad] at h
        · rename_i hx
          rw [if_neg hx]
          split at h
          · simp [RK.bad] at h
          · rename_i hy
            rw [if_neg hy]
            simp only; omega
      · rw [if_neg h2] at h ⊢
        by_cases h3 : c.toNat = 34
        · rw [if_pos h3] at h ⊢
          unfold litR at h ⊢
          have := litGo_len t.length ((c :: t).drop 1) 1 [] (by simp) h
          simp at this ⊢
          omega
        · rw [if_neg h3] at h ⊢
          by_cases h4 : c.toNat = 36 ∧ pat = true
          · rw [if_pos h4] at h ⊢
            unfold metaR at h ⊢
            split at h
            · simp [RK.bad] at h
            · rename_i hx
              rw [if_neg hx]
              split at h
              · simp [RK.bad] at h
              · rename_i hy
                rw [if_neg hy]
                simp only
                have e1 : 1 ≤ metaN (c :: t) := by unfold metaN; split <;> omega
                have e2 : (metaT (c :: t)).length ≤ ((c :: t).drop (metaN (c :: t))).length := (List.take_sublist _ _).length_le
                rw [List.length_drop] at e2
                have e3 : metaN (c :: t) ≤ (c :: t).length := by
                  unfold metaN
                  split
                  · rename_i hz
                    cases t with
                    | nil => simp at hz
                    | cons d u => simp
                  · simp
                omega
          · rw [if_neg h4] at h ⊢
            unfold markR at h ⊢
            split at h
            · rename_i hx
              rw [if_pos hx]
              simp only [List.length_take, List.length_cons]
              omega
            · rename_i hx
              rw [if_neg hx]
              split at h
              · rename_i hy
                rw [if_pos hy]
                simp
              · simp [RK.bad] at h
end Go.Ev
