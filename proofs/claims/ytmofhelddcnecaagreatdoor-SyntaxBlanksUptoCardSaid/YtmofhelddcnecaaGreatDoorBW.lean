/- What is read has bounded width; the law's examples hold. -/
import Derived.Test.YtmofhelddcnecaaGreatDoorBM
import Derived.Test.YtmofhelddcnecaaGreatDoorB3
import Derived.Test.YtmofhelddcnecaaGreatDoorBK
import Derived.Test.YtmofhelddcnecaaGreatDoorBN
import Derived.Test.YtmofhelddcnecaaGreatDoorBLa
set_option linter.unusedVariables false
set_option linter.unusedSimpArgs false
set_option linter.unusedSectionVars false
set_option maxRecDepth 4000
namespace Go.Ev
open PV
section
variable {α β : Type}
/-- Whatever is read is as G says. -/
def WG (G : α → Prop) (p : Ps α) : Prop := ∀ S nx x m, nx ≤ S.T.length → S.T.length ≤ 600 → p S nx = .ok x m → G x
abbrev wT : Tree → Prop := Wid 1000
def wL (l : List Tree) : Prop := (∀ y ∈ l, Wid 1000 y) ∧ l.length ≤ 700
theorem WG.bind {G : α → Prop} {H : β → Prop} {p : Ps α} {f : α → Ps β} [hw : Fw p] (hp : WG G p) (hf : ∀ y, G y → WG H (f y)) : WG H (p >>= f) := fun S nx x m h hB e => by
  obtain ⟨y, k, e1, e2⟩ := PR.bind_ok e
  exact hf y (hp S nx y k h hB e1) S k x m (hw.fw S nx y k h e1).2 hB e2
theorem WG.bindT {H : β → Prop} {p : Ps α} {f : α → Ps β} [hw : Fw p] (hf : ∀ y, WG H (f y)) : WG H (p >>= f) := WG.bind (G := fun _ => True) (fun _ _ _ _ _ _ _ => trivial) fun y _ => hf y
theorem WG.pure {G : α → Prop} {x : α} (h : G x) : WG G (Pure.pure x : Ps α) := fun S nx y m _ _ e => by cases e; exact h
theorem WG.fail {G : α → Prop} : WG G (failP : Ps α) := fun _ _ _ _ _ _ e => by cases e
theorem WG.out {G : α → Prop} : WG G (outP : Ps α) := fun _ _ _ _ _ _ e => by cases e
theorem WG.node {kd a : Int} {t : ByteArray} {ks : List Tree} (h : wL ks) : WG wT (nodeP kd t a ks) := fun _ _ _ _ _ _ e => by
  cases e
  exact .mk _ _ _ _ _ (by have := h.2; omega) h.1
theorem WG.ite {G : α → Prop} {c : Prop} [Decidable c] {a b : Ps α} (h1 : WG G a) (h2 : WG G b) : WG G (if c then a else b) := by split <;> assumption
theorem WG.isC {G : α → Prop} {t : ByteArray} {p q : Ps α} (h1 : WG G p) (h2 : WG G q) : WG G (isC t p q) := fun S nx x m h hB e => by
  unfold Ev.isC at e
  split at e
  · exact h1 S nx x m h hB e
  · exact h2 S nx x m h hB e
theorem WG.tak {G : α → Prop} {t : ByteArray} {p q : Ps α} (h1 : WG G p) (h2 : WG G q) : WG G (takeC t p q) := fun S nx x m h hB e => by
  unfold takeC at e
  split at e
  · rename_i h3; exact h1 S _ x m (isT_lt h3) hB e
  · exact h2 S nx x m h hB e
theorem WG.more {G : α → Prop} {p q : Ps α} (h1 : WG G p) (h2 : WG G q) : WG G (moreC p q) := fun S nx x m h hB e => by
  unfold moreC at e
  split at e
  · exact h1 S nx x m h hB e
  · exact h2 S nx x m h hB e
theorem wL_nil : wL [] := ⟨fun _ h => (List.not_mem_nil h).elim, by simp⟩
theorem wL_one {x : Tree} (h : wT x) : wL [x] := ⟨fun y hy => by simp at hy; subst hy; exact h, by simp⟩
theorem wL_two {x y : Tree} (h : wT x) (h' : wT y) : wL [x, y] := ⟨fun z hz => by simp at hz; rcases hz with rfl | rfl <;> assumption, by simp⟩
theorem wL_three {x y z : Tree} (h : wT x) (h' : wT y) (h'' : wT z) : wL [x, y, z] := ⟨fun u hu => by simp at hu; rcases hu with rfl | rfl | rfl <;> assumption, by simp⟩
theorem wT_list {e : Int} {l : List Tree} (h : wL l) : wT (listT e l) := by
  cases l with
  | nil => exact .mk _ _ _ _ _ (by simp) fun _ h => by cases h
  | cons x r => exact .mk _ _ _ _ _ (by have := h.2; omega) h.1
theorem WG.one {p : Ps Tree} [Fw p] (h : WG wT p) : WG wL (oneP p) := WG.bind h fun _ hx => WG.pure (wL_one hx)
theorem WG.meta_ {a b : Int} : WG wT (metaP a b) := WG.bindT fun _ => WG.bindT fun _ => WG.node wL_nil
theorem WG.leaf {a b : Int} {t : Tok} : WG wT (leafP a b t) := WG.bindT fun _ => WG.node wL_nil
theorem WG.partK {a b : Int} : WG wT (partK a b) := WG.bindT fun _ => WG.bindT fun _ => WG.bindT fun _ => WG.node wL_nil
theorem WG.partC {G : α → Prop} {p : Tree → Ps α} {q : Ps α} (h1 : ∀ x, wT x → WG G (p x)) (h2 : WG G q) : WG G (partC p q) := fun S nx x m h hB e => by
  unfold Ev.partC at e
  split at e
  · exact WG.bind (p := Ev.partK 7 26) WG.partK h1 S nx x m h hB e
  · split at e
    · exact WG.bind (p := Ev.partK 6 25) WG.partK h1 S nx x m h hB e
    · exact h2 S nx x m h hB e
theorem WG.name : WG wT nameP := WG.bindT fun _ => WG.bindT fun _ => WG.node wL_nil
theorem WG.typ : WG wT typP := WG.bindT fun _ => WG.ite WG.meta_ WG.name
theorem WG.many {one : Ps Tree} [Sp one] (h : WG wT one) : WG wT (manyOr one) := WG.bindT fun _ => WG.ite WG.meta_ h
theorem all_snoc {G : Tree → Prop} {l : List Tree} {x : Tree} (h : ∀ y ∈ l, G y) (hx : G x) : ∀ y ∈ l ++ [x], G y := fun y hy => by
  rcases List.mem_append.1 hy with hy | hy
  · exact h y hy
  · simp at hy; subst hy; exact hx
theorem WG.rowE {one : Ps Tree} [Sp one] (ho : WG wT one) : ∀ g acc, (∀ y ∈ acc, wT y) → WG (fun l => ∀ y ∈ l, wT y) (rowP one g acc)
  | 0, acc, h => WG.out
  | g + 1, acc, h => by
    unfold rowP
    exact WG.bind (WG.many ho) fun x hx => WG.tak (WG.rowE ho g _ (all_snoc h hx)) (WG.pure (all_snoc h hx))
theorem WG.row {one : Ps Tree} [Sp one] {g : Nat} (ho : WG wT one) : WG wL (rowP one g []) := fun S nx l m h hB e => by
  have h1 := row_len h (by simp) e
  have h2 := (inferInstance : Fw (rowP one g [])).fw S nx l m h e
  exact ⟨WG.rowE ho g [] (fun _ h => by cases h) S nx l m h hB e, by omega⟩
theorem WG.param : WG wT paramP := WG.bindT fun _ => WG.bindT fun _ => WG.bindT fun _ => WG.bind WG.typ fun _ hy => WG.node (wL_one hy)
theorem WG.parens {one : Ps Tree} [Sp one] {g : Nat} (ho : WG wT one) : WG wL (parensP one g) := WG.isC (WG.pure wL_nil) (WG.row ho)
section
variable {g : Nat} {E : Ps Tree} [hE : Sp E] (ho : WG wT E)
include ho
local instance : Fw E := Sp.fw'
theorem WG.args : WG (fun l => (∀ y ∈ l, wT y) ∧ l.length ≤ 600) (argsP g E) := fun S nx l m h hB e => by
  have h1 := args_len h e
  have h2 := (inferInstance : Fw (argsP g E)).fw S nx l m h e
  have h3 : WG (fun l => ∀ y ∈ l, wT y) (argsP g E) := WG.bindT fun _ => WG.bind (G := fun l => ∀ y ∈ l, wT y) (fun S nx l m h hB e => (WG.parens ho S nx l m h hB e).1) fun l hl => WG.bindT fun _ => WG.pure hl
  exact ⟨h3 S nx l m h hB e, by omega⟩
theorem WG.new_ {t : Tok} : WG wT (newP g E t) := WG.bindT fun _ => WG.bind (WG.args ho) fun l hl => WG.node ⟨hl.1, by have := hl.2; omega⟩
theorem WG.inner {t : Tok} : WG wT (innerP E t) := WG.bind ho fun x hx => WG.bindT fun _ => WG.bindT fun _ => WG.pure (by cases hx with | mk kd t a e ks h hk => exact .mk _ _ _ _ _ h hk)
theorem WG.rest {t : Tok} : WG wT (restP g E t) := WG.tak (WG.node wL_nil) (WG.tak (WG.node wL_nil) (WG.tak (WG.node wL_nil) (WG.tak (WG.node wL_nil) (WG.tak (WG.new_ ho) (WG.tak (WG.inner ho) WG.fail)))))
theorem WG.primary : WG wT (primaryP g E) := WG.bindT fun _ => WG.ite WG.leaf (WG.ite WG.leaf (WG.ite WG.leaf (WG.ite WG.meta_ (WG.rest ho))))
theorem WG.post : ∀ m x, wT x → WG wT (postP g E m x)
  | 0, x, h => WG.out
  | m + 1, x, h => by
    unfold postP
    exact WG.tak (WG.bindT fun _ => WG.bind (WG.node (wL_one h)) fun y hy => WG.post m y hy)
      (WG.isC (WG.bind (WG.args ho) fun l hl => WG.bind (WG.node ⟨fun y hy => by rcases List.mem_cons.1 hy with rfl | hy; exact h; exact hl.1 y hy, by have := hl.2; simp; omega⟩) fun y hy => WG.post m y hy) (WG.pure h))
theorem WG.unaryB {U : Ps Tree} [Sp U] (hu : WG wT U) : WG wT (unaryB g E U) := by
  have : Fw U := Sp.fw'
  exact WG.bindT fun t => WG.tak (WG.bind hu fun x hx => WG.node (wL_one hx)) (WG.tak (WG.bind hu fun x hx => WG.node (wL_one hx)) (WG.bind (WG.primary ho) fun x hx => WG.post ho g x hx))
theorem WG.knotU : ∀ m, WG wT (knotU g E m)
  | 0 => WG.out
  | m + 1 => WG.unaryB ho (WG.knotU m)
theorem WG.unary : WG wT (unaryP g E) := WG.unaryB ho (WG.knotU ho g)
omit ho in
theorem WG.binLoop {ops : List ByteArray} {sub : Ps Tree} [Sp sub] (hs : WG wT sub) : ∀ m x, wT x → WG wT (binLoop ops sub m x)
  | 0, x, h => WG.out
  | m + 1, x, h => by
    have : Fw sub := Sp.fw'
    unfold Ev.binLoop
    exact WG.bindT fun t => WG.ite (WG.bindT fun _ => WG.bind hs fun y hy => WG.bind (WG.node (wL_two h hy)) fun z hz => WG.binLoop hs m z hz) (WG.pure h)
theorem WG.bin : ∀ l, WG wT (binP g E l)
  | [] => WG.unary ho
  | ops :: r => by
    have : Fw (binP g E r) := Sp.fw'
    exact WG.bind (WG.bin r) fun x hx => WG.binLoop (WG.bin r) g x hx
end
theorem WG.knotE {g : Nat} : ∀ m, WG wT (knotE g m)
  | 0 => WG.out
  | m + 1 => WG.bin (WG.knotE m) levels
theorem WG.expr {g : Nat} : WG wT (exprP g) := WG.bin (WG.knotE g) levels
theorem WG.opt {p : Ps Tree} {t : ByteArray} [Fw p] (h : WG wT p) : WG wL (takeC (α := List Tree) t (oneP p) (Pure.pure [])) := WG.tak (WG.one h) (WG.pure wL_nil)
theorem WG.variable_ {g : Nat} : WG wT (variableP g) :=
  WG.bindT fun _ => WG.bindT fun _ => WG.bindT fun _ => WG.bindT fun _ => WG.bind WG.typ fun y hy => WG.bindT fun _ => WG.bind (WG.opt WG.expr) fun l hl => WG.bindT fun _ => WG.node (wL_two hy (wT_list hl))
theorem WG.cond {g : Nat} : WG wT (condP g) := WG.bindT fun _ => WG.bind WG.expr fun x hx => WG.bindT fun _ => WG.pure hx
section
variable {g : Nat} {R : Ps Tree} [hR : Sp R] (ho : WG wT R)
include ho
local instance : Fw R := Sp.fw'
theorem WG.stmts : ∀ m acc, (∀ y ∈ acc, wT y) → WG (fun l => ∀ y ∈ l, wT y) (stmtsP R m acc)
  | 0, acc, h => WG.out
  | m + 1, acc, h => by
    unfold stmtsP
    exact WG.isC (WG.pure h) (WG.bind ho fun x hx => WG.stmts m _ (all_snoc h hx))
omit ho in
theorem stmts_len {S : Src} : ∀ {k : Nat} {acc l : List Tree} {nx nx' : Nat}, nx ≤ S.T.length → acc.length ≤ nx → stmtsP R k acc S nx = .ok l nx' → l.length ≤ nx'
  | 0, acc, l, nx, nx', _, _, e => by cases e
  | k + 1, acc, l, nx, nx', h, hl, e => by
    unfold stmtsP isC at e
    split at e
    · cases e; omega
    · obtain ⟨x, m, e1, e3⟩ := PR.bind_ok e
      have h1 := hR.sp S nx x m h e1
      exact stmts_len h1.2 (by simp; omega) e3
theorem WG.blockB : WG wT (blockB g R) := WG.bindT fun _ => WG.bindT fun _ => WG.bind (G := wL) (fun S nx l m h hB e => by
    have h1 := stmts_len h (by simp) e
    have h2 := (inferInstance : Fw (stmtsP R g [])).fw S nx l m h e
    exact ⟨WG.stmts ho g [] (fun _ h => by cases h) S nx l m h hB e, by omega⟩) fun l hl => WG.bindT fun _ => WG.node hl
theorem WG.stmtB : WG wT (stmtB g R) := WG.bindT fun t => WG.partC (fun x hx => WG.pure hx) (WG.isC WG.variable_ (WG.isC (WG.blockB ho)
  (WG.tak (WG.bind (G := wL) (WG.isC (WG.pure wL_nil) (WG.one WG.expr)) fun l hl => WG.bindT fun _ => WG.node hl)
  (WG.tak (WG.bind WG.cond fun x hx => WG.bind (WG.blockB ho) fun y hy => WG.bindT fun _ => WG.bind (WG.opt (WG.blockB ho)) fun l hl => WG.node (wL_three hx hy (wT_list hl)))
  (WG.tak (WG.bind WG.cond fun x hx => WG.bind (WG.blockB ho) fun y hy => WG.node (wL_two hx hy))
  (WG.bind WG.expr fun x hx => WG.tak (WG.bind WG.expr fun y hy => WG.bindT fun _ => WG.node (wL_two hx hy)) (WG.bindT fun _ => WG.node (wL_one hx))))))))
theorem WG.members : ∀ m acc, (∀ y ∈ acc, wT y) → WG (fun l => ∀ y ∈ l, wT y) (membersP R m acc)
  | 0, acc, h => WG.out
  | m + 1, acc, h => by
    unfold membersP
    exact WG.isC (WG.pure h) (WG.bindT fun t => WG.ite (WG.bind WG.partK fun x hx => WG.members m _ (all_snoc h hx)) (WG.partC (fun x hx => WG.members m _ (all_snoc h hx)) (WG.bind ho fun x hx => WG.members m _ (all_snoc h hx))))
theorem WG.body : WG wT (bodyP R g) := WG.bindT fun _ => WG.bindT fun _ => WG.bind (G := wL) (fun S nx l m h hB e => by
    have h1 := members_len h (by simp) e
    have h2 := (inferInstance : Fw (membersP R g [])).fw S nx l m h e
    exact ⟨WG.members ho g [] (fun _ h => by cases h) S nx l m h hB e, by omega⟩) fun l hl => WG.pure (wT_list hl)
end
theorem WG.knotS {g : Nat} : ∀ m, WG wT (knotS g m)
  | 0 => WG.out
  | m + 1 => WG.stmtB (WG.knotS m)
theorem WG.stmt {g : Nat} : WG wT (stmtP g) := WG.stmtB (WG.knotS g)
theorem WG.block {g : Nat} : WG wT (blockP g) := WG.blockB (WG.knotS g)
theorem WG.fun_ {g : Nat} {w : Bool} : WG wT (funP g w) :=
  WG.bindT fun _ => WG.bindT fun _ => WG.bindT fun _ => WG.bindT fun _ => WG.bindT fun _ => WG.bind (WG.parens WG.param) fun l hl => WG.bindT fun _ => WG.bindT fun _ => WG.bind (WG.opt WG.typ) fun l2 hl2 => WG.bindT fun _ =>
    WG.ite (WG.bind WG.block fun x hx => WG.node (wL_three (wT_list hl) (wT_list hl2) (wT_list (wL_one hx)))) (WG.bindT fun _ => WG.node (wL_three (wT_list hl) (wT_list hl2) (wT_list wL_nil)))
theorem WG.member {g : Nat} : WG wT (memberP g) := WG.isC WG.variable_ WG.fun_
theorem WG.rows {g : Nat} {t : ByteArray} : WG wL (takeC (α := List Tree) t (rowP typP g []) (Pure.pure [])) := WG.tak (WG.row WG.typ) (WG.pure wL_nil)
theorem WG.class_ {g : Nat} : WG wT (classP g) :=
  WG.bindT fun _ => WG.bindT fun _ => WG.bindT fun _ => WG.bindT fun _ => WG.bind (WG.opt WG.typ) fun l hl => WG.bindT fun _ => WG.bind WG.rows fun l2 hl2 => WG.bind (WG.body WG.member) fun d hd => WG.bindT fun _ => WG.node (wL_three (wT_list hl) (wT_list hl2) hd)
theorem WG.iface {g : Nat} : WG wT (ifaceP g) :=
  WG.bindT fun _ => WG.bindT fun _ => WG.bindT fun _ => WG.bindT fun _ => WG.bind WG.rows fun l hl => WG.bind (WG.body WG.fun_) fun d hd => WG.bindT fun _ => WG.node (wL_two (wT_list hl) hd)
theorem WG.decl {g : Nat} : WG wT (declP g) := WG.isC WG.class_ (WG.isC WG.iface (WG.isC WG.fun_ (WG.isC WG.variable_ WG.fail)))
theorem WG.import_ : WG wT importP := WG.bindT fun _ => WG.bindT fun _ => WG.bindT fun _ => WG.bindT fun _ => WG.node wL_nil
theorem imports_len {S : Src} : ∀ {k : Nat} {acc l : List Tree} {nx nx' : Nat}, nx ≤ S.T.length → acc.length ≤ nx → importsP k acc S nx = .ok l nx' → l.length ≤ nx'
  | 0, acc, l, nx, nx', _, _, e => by cases e
  | k + 1, acc, l, nx, nx', h, hl, e => by
    unfold importsP isC at e
    split at e
    · obtain ⟨x, m, e1, e3⟩ := PR.bind_ok e
      have h1 := (inferInstance : Sp importP).sp S nx x m h e1
      exact imports_len h1.2 (by simp; omega) e3
    · cases e; omega
theorem decls_len {S : Src} {g : Nat} : ∀ {k : Nat} {acc l : List Tree} {nx nx' : Nat}, nx ≤ S.T.length → acc.length ≤ nx → declsP g k acc S nx = .ok l nx' → l.length ≤ nx'
  | 0, acc, l, nx, nx', _, _, e => by cases e
  | k + 1, acc, l, nx, nx', h, hl, e => by
    unfold declsP moreC at e
    split at e
    · obtain ⟨x, m, e1, e3⟩ := PR.bind_ok e
      have h1 := (inferInstance : Sp (declP g)).sp S nx x m h e1
      exact decls_len h1.2 (by simp; omega) e3
    · cases e; omega
theorem WG.imports : ∀ m acc, (∀ y ∈ acc, wT y) → WG (fun l => ∀ y ∈ l, wT y) (importsP m acc)
  | 0, acc, h => WG.out
  | m + 1, acc, h => by
    unfold importsP
    exact WG.isC (WG.bind WG.import_ fun x hx => WG.imports m _ (all_snoc h hx)) (WG.pure h)
theorem WG.decls {g : Nat} : ∀ m acc, (∀ y ∈ acc, wT y) → WG (fun l => ∀ y ∈ l, wT y) (declsP g m acc)
  | 0, acc, h => WG.out
  | m + 1, acc, h => by
    unfold declsP
    exact WG.more (WG.bind WG.decl fun x hx => WG.decls m _ (all_snoc h hx)) (WG.pure h)
theorem WG.module_ {g : Nat} : WG wT (moduleP g) := fun S nx x m h hB e => by
  obtain ⟨l, k, e1, e2⟩ := PR.bind_ok e
  have h1 := (inferInstance : Fw (importsP g [])).fw S nx l k h e1
  have hl := imports_len h (by simp) e1
  obtain ⟨l2, k2, e3, e4⟩ := PR.bind_ok e2
  have h2 := (inferInstance : Fw (declsP g g l)).fw S k l2 k2 h1.2 e3
  have hl2 := decls_len h1.2 hl e3
  obtain ⟨s, k3, e5, e6⟩ := PR.bind_ok e4
  cases e6
  exact .mk _ _ _ _ _ (by omega) (WG.decls g l (WG.imports g [] (fun _ h => by cases h) S nx l k h hB e1) S k l2 k2 h1.2 hB e3)
theorem WG.frag {g : Nat} {what : Int} : WG wT (fragP g what) := WG.ite WG.expr (WG.ite WG.stmt WG.decl)
end
/-! What is scanned fits. -/
theorem litGo_acc : ∀ (k : Nat) (l : List UInt8) (n : Nat) (acc : List UInt8), l.length ≤ k → (litGo l n acc).err = 0 → (litGo l n acc).text.length ≤ 60 ∧ (litGo l n acc).kind = 4
  | 0, [], n, acc, _, h => by simp [litGo, RK.bad] at h
  | 0, c :: t, n, acc, hk, h => by simp at hk
  | k + 1, [], n, acc, _, h => by simp [litGo, RK.bad] at h
  | k + 1, c :: t, n, acc, hk, h => by
    simp only [List.length_cons] at hk
    by_cases h1 : c.toNat = 34
    · rw [litGo_q h1] at h ⊢
      split at h
      · simp [RK.bad] at h
      · rename_i hx
        rw [if_neg hx]
        exact ⟨by show acc.length ≤ 60; omega, rfl⟩
    · by_cases h2 : c.toNat < 32 ∨ 126 < c.toNat
      · rw [litGo_bad h1 h2] at h; simp [RK.bad] at h
      · by_cases h3 : c.toNat = 92
        · cases t with
          | nil => rw [litGo_end h3] at h; simp [RK.bad] at h
          | cons d u =>
            simp only [List.length_cons] at hk
            by_cases h4 : d.toNat = 34 ∨ d.toNat = 92
            · rw [litGo_esc h3 h4] at h ⊢
              exact litGo_acc k u (n + 2) _ (by omega) h
            · by_cases h5 : d.toNat = 110
              · rw [litGo_escn h3 h5] at h ⊢
                exact litGo_acc k u (n + 2) _ (by omega) h
              · rw [litGo_escx h3 (by omega) (by omega) h5] at h; simp [RK.bad] at h
        · rw [litGo_ch h1 (by omega) (by omega) h3] at h ⊢
          exact litGo_acc k t (n + 1) _ (by omega) h
theorem kw_wordy : kwL.all (fun w => wordy (tx w)) = true := by decide
theorem mark_wordy : markL.all (fun w => !wordy (tx w)) = true := by decide
theorem mem_beq {w : List UInt8} {L : List (List UInt8)} (h : L.any (w == ·) = true) : w ∈ L := by
  obtain ⟨x, hx, he⟩ := List.any_eq_true.1 h
  rw [beq_iff_eq.1 he]
  exact hx
/-- A token that a scan may bring. -/
def TokOk (t : Tok) : Prop := t.text.size ≤ 1000000000 ∧ (t.kind = 2 → wordy t.text = true) ∧ (t.kind = 5 → wordy t.text = false)
theorem rdTok_ok (pat : Bool) (l : List UInt8) (a b : Int) (hl : l.length ≤ 1000000000) (h : (rdTok pat l).err = 0) : TokOk ⟨(rdTok pat l).kind, tx (rdTok pat l).text, a, b⟩ := by
  unfold TokOk
  simp only [tx_size]
  cases l with
  | nil => simp [rdTok, RK.bad] at h
  | cons c t =>
    unfold rdTok at h ⊢
    simp only at h ⊢
    by_cases h1 : isLetterI c.toNat = true
    · rw [if_pos h1] at h ⊢
      have hw : (wordT (c :: t)).length ≤ 1000000000 := by have := (List.take_sublist (wordLen (c :: t)) (c :: t)).length_le; unfold wordT; omega
      unfold wordR at h ⊢
      by_cases h2 : isKwL (wordT (c :: t)) = true
      · rw [if_pos h2]
        exact ⟨hw, fun _ => List.all_eq_true.1 kw_wordy _ (mem_beq h2), fun h => by simp at h⟩
      · rw [if_neg h2] at h ⊢
        by_cases h3 : 24 < (wordT (c :: t)).length
        · rw [if_pos h3] at h; simp [RK.bad] at h
        · rw [if_neg h3]; exact ⟨hw, fun h => by simp at h, fun h => by simp at h⟩
    · rw [if_neg h1] at h ⊢
      by_cases h2 : isDigitI c.toNat = true
      · rw [if_pos h2] at h ⊢
        unfold intR at h ⊢
        split at h
        · simp [RK.bad] at h
        · rename_i hx
          rw [if_neg hx]
          split at h
          · simp [RK.bad] at h
          · rename_i hy
            rw [if_neg hy]
            exact ⟨by have := (List.take_sublist (digLen (c :: t)) (c :: t)).length_le; simp only; omega, fun h => by simp at h, fun h => by simp at h⟩
      · rw [if_neg h2] at h ⊢
        by_cases h3 : c.toNat = 34
        · rw [if_pos h3] at h ⊢
          have := litGo_acc _ _ _ _ (Nat.le_refl _) h
          unfold litR
          rw [this.2]
          exact ⟨by omega, fun h => by simp at h, fun h => by simp at h⟩
        · rw [if_neg h3] at h ⊢
          by_cases h4 : c.toNat = 36 ∧ pat = true
          · rw [if_pos h4] at h ⊢
            unfold metaR at h ⊢
            split at h
            · simp [RK.bad] at h
            · rename_i hx
              rw [if_neg hx]
              split at h
              · simp [RK.bad] at h
              · rename_i hy
                rw [if_neg hy]
                refine ⟨by simp only; omega, fun h => ?_, fun h => ?_⟩ <;> · simp only at h; split at h <;> omega
          · rw [if_neg h4] at h ⊢
            unfold markR at h ⊢
            split at h
            · rename_i hx
              rw [if_pos hx]
              exact ⟨by simp only [List.length_take]; omega, fun h => by simp at h, fun _ => by simpa using List.all_eq_true.1 mark_wordy _ (mem_beq hx)⟩
            · rename_i hx
              rw [if_neg hx]
              split at h
              · rename_i hy
                rw [if_pos hy]
                exact ⟨by simp only [List.length_take]; omega, fun h => by simp at h, fun _ => by simpa using List.all_eq_true.1 mark_wordy _ (mem_beq hy)⟩
              · simp [RK.bad] at h
/-- What holds of every token that is read holds of all that are scanned. -/
theorem scanW_all (pat : Bool) {P : Tok → Prop} {L : Nat} (hP : ∀ (l : List UInt8) (at_ : Nat), (rdTok pat l).err = 0 → at_ + l.length ≤ L → P ⟨(rdTok pat l).kind, tx (rdTok pat l).text, at_, (at_ + (rdTok pat l).len : Nat)⟩) :
    ∀ (f : Nat) (l : List UInt8) (at_ : Nat) (acc : List Tok), at_ + l.length ≤ L → (∀ t ∈ acc, P t) → acc.length ≤ 600 → (∀ t ∈ (scanW pat f l at_ acc).toks, P t) ∧ (scanW pat f l at_ acc).toks.length ≤ 600
  | 0, l, at_, acc, hL, h, hl => ⟨h, hl⟩
  | f + 1, [], at_, acc, hL, h, hl => ⟨h, hl⟩
  | f + 1, c :: t, at_, acc, hL, h, hl => by
    unfold scanW
    by_cases he : (rdTok pat (c :: t)).err = 0
    · simp only [if_pos he]
      have hlen := rdTok_len pat _ he
      by_cases h6 : 600 ≤ acc.length
      · simp only [if_pos h6]; exact ⟨fun t h => (List.not_mem_nil h).elim, by simp⟩
      · simp only [if_neg h6]
        have h1 := List.length_drop (i := (rdTok pat (c :: t)).len) (l := c :: t)
        have h2 := List.length_drop (i := skipGo false ((c :: t).drop (rdTok pat (c :: t)).len)) (l := (c :: t).drop (rdTok pat (c :: t)).len)
        have h3 := skipGo_le ((c :: t).drop (rdTok pat (c :: t)).len) false
        refine scanW_all pat hP f _ _ _ (by omega) (fun u hu => ?_) (by simp; omega)
        rcases List.mem_append.1 hu with hu | hu
        · exact h u hu
        · simp at hu; subst hu; exact hP _ _ he hL
    · simp only [if_neg he]; exact ⟨fun t h => (List.not_mem_nil h).elim, by simp⟩
theorem scan_all (pat : Bool) {P : Tok → Prop} (l : List UInt8) (hP : ∀ (l' : List UInt8) (at_ : Nat), (rdTok pat l').err = 0 → at_ + l'.length ≤ l.length → P ⟨(rdTok pat l').kind, tx (rdTok pat l').text, at_, (at_ + (rdTok pat l').len : Nat)⟩) : (∀ t ∈ (scanR pat l).toks, P t) ∧ (scanR pat l).toks.length ≤ 600 :=
  scanW_all pat hP _ _ _ _ (by have := skipGo_le l false; simp; omega) (fun t h => by cases h) (by simp)
theorem scan_fit (pat : Bool) (l : List UInt8) (sz : Int) (hl : l.length ≤ 1000000000) : Fit ⟨(scanR pat l).toks, sz⟩ 0 ∧ (scanR pat l).toks.length ≤ 600 := by
  have h := scan_all (P := TokOk) pat l fun l' a he hL => rdTok_ok pat l' _ _ (by omega) he
  exact ⟨⟨by show (scanR pat l).toks.length ≤ _; omega, Nat.zero_le _, fun t ht => (h.1 t ht).1, fun t ht => (h.1 t ht).2⟩, h.2⟩
/-! What Module and Fragment give. -/
def resM (s : ByteArray) : Tree × Int × Int := outM (scanR false s.data.toList) s.size (moduleP 601)
def resG (what : Int) (s : ByteArray) : Tree × Int × Int := outG what (scanR true s.data.toList) s.size 601
theorem To.frag {g m : Nat} {S : Src} {what : Int} (h : m < g) : To (fragP g what) S m := To.ite (fun _ => To.expr h) fun _ => To.ite (fun _ => To.stmt h) fun _ => To.decl h
section
variable {n : Nat} {sg : List (List PV)} {K : Res → Out}
theorem module_res {k : Nat} {s : ByteArray} (hn : 2000010 ≤ n) (hL : n ≤ 4611686018427387904) (hs : s.size ≤ 1000000000) (hsn : s.size + 30 < n) (hk : dD 601 + 40 ≤ k) (h : ∀ e, K ⟨false, outV (resM s)⟩ (sg ++ e)) : callW (En n) k 11 [.str s] sg K := by
  obtain ⟨hf, h6⟩ := scan_fit false s.data.toList s.size (by rw [len_data]; exact hs)
  exact module_out (g := 601) (by omega) (by omega) hL (fun K h => tokScan_spec (by omega) hs (by omega) h) hf (To.whole (To.module_ (m := 600) (by omega)) 0 (Nat.zero_le _) (by show _ - 0 ≤ 600; exact h6))
    (fun x m e => (WG.module_ _ 0 x m (Nat.zero_le _) h6 e).mono (by omega)) h hk
theorem fragment_res {k : Nat} {what : Int} {s : ByteArray} (hn : 2000010 ≤ n) (hL : n ≤ 4611686018427387904) (hs : s.size ≤ 1000000000) (hsn : s.size + 30 < n) (hk : dD 601 + 40 ≤ k) (h : ∀ e, K ⟨false, outV (resG what s)⟩ (sg ++ e)) : callW (En n) k 14 [.int .i64 what, .str s] sg K := by
  obtain ⟨hf, h6⟩ := scan_fit true s.data.toList s.size (by rw [len_data]; exact hs)
  exact fragment_out (g := 601) (by omega) (by omega) hL (fun K h => tokScanP_spec (by omega) hs (by omega) h) hf (To.whole (To.frag (m := 600) (by omega)) 0 (Nat.zero_le _) (by show _ - 0 ≤ 600; exact h6))
    (fun x m e => (WG.frag _ 0 x m (Nat.zero_le _) h6 e).mono (by omega)) h hk
end
end Go.Ev
set_option maxRecDepth 20000
namespace Go.Ev
open PV
def okB : Nat → Tree → Bool
  | 0, _ => false
  | d + 1, t => (decide (t.kids.length < 1000) && decide (t.text.size < 1000)) && t.kids.all (okB d)
theorem okB_sound : ∀ (d : Nat) (t : Tree), okB d t = true → Hgt d t ∧ Wid 1000 t ∧ Txt 1000 t
  | 0, t, h => by cases h
  | d + 1, .mk kd tx a e ks, h => by
    have h : ((decide (ks.length < 1000) && decide (tx.size < 1000)) && ks.all (okB d)) = true := h
    simp only [Bool.and_eq_true, decide_eq_true_iff] at h
    have hk : ∀ x ∈ ks, Hgt d x ∧ Wid 1000 x ∧ Txt 1000 x := fun x hx => okB_sound d x (List.all_eq_true.1 h.2 x hx)
    exact ⟨.mk _ _ _ _ _ _ fun x hx => (hk x hx).1, .mk _ _ _ _ _ h.1.1 fun x hx => (hk x hx).2.1, .mk _ _ _ _ _ h.1.2 fun x hx => (hk x hx).2.2⟩
def tC : Tree := .mk 3 ⟨#[65]⟩ 0 23 [.mk 24 ⟨#[]⟩ 7 7 [], .mk 24 ⟨#[]⟩ 7 7 [], .mk 24 ⟨#[]⟩ 10 21 [.mk 6 ⟨#[110]⟩ 10 21 [.mk 8 ⟨#[105, 110, 116]⟩ 17 20 [], .mk 24 ⟨#[]⟩ 20 20 []]]]
def tM : Tree := .mk 1 ⟨#[]⟩ 0 23 [tC]
def tF : Tree := .mk 20 ⟨#[]⟩ 0 10 [.mk 15 ⟨#[102]⟩ 0 1 [], .mk 25 ⟨#[88]⟩ 2 4 [], .mk 26 ⟨#[82]⟩ 6 9 []]
def tS : Tree := .mk 25 ⟨#[83]⟩ 0 3 []
theorem al1 : resM ⟨#[99, 108, 97, 115, 115, 32, 65, 32, 123, 32, 118, 97, 114, 32, 110, 58, 32, 105, 110, 116, 59, 32, 125]⟩ = (tM, 0, 0) := by kernel_rfl
theorem al2 : resM ⟨#[118, 97, 114, 32, 120, 32, 105, 110, 116, 59]⟩ = (noTree, 6, 11) := by kernel_rfl
theorem al3 : resM ⟨#[118, 97, 114, 32, 120, 58, 32, 105, 110, 116]⟩ = (noTree, 10, 11) := by kernel_rfl
theorem al4 : resG 1 ⟨#[102, 40, 36, 88, 44, 32, 36, 36, 82, 41]⟩ = (tF, 0, 0) := by kernel_rfl
theorem al5 : resG 2 ⟨#[36, 83, 59]⟩ = (tS, 0, 0) := by kernel_rfl
theorem al6 : resG 1 ⟨#[110, 101, 119, 32, 36, 84, 40, 41]⟩ = (noTree, 4, 11) := by kernel_rfl
theorem al7 : resG 0 ⟨#[]⟩ = (noTree, 0, 1) := by kernel_rfl
theorem alS : sizeT tM = 8 := by kernel_rfl
theorem alD : depthT tM = 5 := by kernel_rfl
theorem alA : aroundT 18 tM = [tM, tC, .mk 24 ⟨#[]⟩ 10 21 [.mk 6 ⟨#[110]⟩ 10 21 [.mk 8 ⟨#[105, 110, 116]⟩ 17 20 [], .mk 24 ⟨#[]⟩ 20 20 []]], .mk 6 ⟨#[110]⟩ 10 21 [.mk 8 ⟨#[105, 110, 116]⟩ 17 20 [], .mk 24 ⟨#[]⟩ 20 20 []], .mk 8 ⟨#[105, 110, 116]⟩ 17 20 []] := by kernel_rfl
theorem alR : rightT tM = true := by kernel_rfl
theorem alR' : rightT tF = false := by kernel_rfl
theorem okM : okB 6 tM = true := by kernel_rfl
theorem okF : okB 6 tF = true := by kernel_rfl
theorem no {b : Bool} {x y : Prop} (hb : b = false) (h : y) : bcond b x y := by subst hb; exact h
theorem yes {b : Bool} {x y : Prop} (hb : b = true) (h : x) : bcond b x y := by subst hb; exact h
theorem ck {b : Bool} {x : Prop} (hb : b = true) (h : x) : chk b x := by subst hb; exact h
section
variable {n : Nat} {sg : List (List PV)} {K : Res → Out}
set_option maxHeartbeats 1000000 in
theorem alive_spec {k : Nat} (hn : 2000010 ≤ n) (hL : n ≤ 4611686018427387904) (hk : dD 601 + 60 ≤ k) (h : ∀ e, K ⟨false, .bool true⟩ (sg ++ e)) : callW (En n) k 10 [] sg K := by
  obtain ⟨hM, wM, xM⟩ := okB_sound 6 tM okM
  obtain ⟨hF, wF, xF⟩ := okB_sound 6 tF okF
  have wM := wM.mono (show 1000 ≤ n by omega)
  have xM := xM.mono (show 1000 ≤ n by omega)
  have wF := wF.mono (show 1000 ≤ n by omega)
  have xF := xF.mono (show 1000 ≤ n by omega)
  have z1 : (⟨#[99, 108, 97, 115, 115, 32, 65, 32, 123, 32, 118, 97, 114, 32, 110, 58, 32, 105, 110, 116, 59, 32, 125]⟩ : ByteArray).size = 23 := rfl
  have z2 : (⟨#[118, 97, 114, 32, 120, 32, 105, 110, 116, 59]⟩ : ByteArray).size = 10 := rfl
  have z3 : (⟨#[118, 97, 114, 32, 120, 58, 32, 105, 110, 116]⟩ : ByteArray).size = 10 := rfl
  have z4 : (⟨#[102, 40, 36, 88, 44, 32, 36, 36, 82, 41]⟩ : ByteArray).size = 10 := rfl
  have z5 : (⟨#[36, 83, 59]⟩ : ByteArray).size = 3 := rfl
  have z6 : (⟨#[110, 101, 119, 32, 36, 84, 40, 41]⟩ : ByteArray).size = 8 := rfl
  have z7 : (⟨#[]⟩ : ByteArray).size = 0 := rfl
  rw [callW_at (by omega) rfl, Law12_alive.eq, cP]
  refine module_res hn hL (by omega) (by omega) (by omega) fun e1 => ?_
  rw [al1]
  show C n _ 10 _ (Law12_alive.S0 1 ⟨#[]⟩ 0 23 (kidRows [tC]) 0 0) (sg ++ e1) _
  rw [C_eq, Law12_alive.cut0]
  refine no rfl (no rfl ?_)
  show cI _ 27 [nodeV tM] (sg ++ e1) (pan K) _
  rw [cI_of _ (fun K => size_spec hL 6 (k - 1) tM K hM (by omega) wM), alS]
  refine no rfl ?_
  show cI _ 28 [nodeV tM] (sg ++ e1) (pan K) _
  rw [cI_of _ (fun K => depth_spec hL 6 (k - 1) tM K hM (by omega) wM), alD]
  refine no rfl (no rfl (ck rfl (ck rfl (ck rfl (no rfl ?_)))))
  show C n _ 10 _ (Law12_alive.S1 1 ⟨#[]⟩ 0 23 (kidRows [tC]) 0 0 false) (sg ++ e1) _
  rw [C_eq, Law12_alive.cut1]
  refine ck rfl (ck rfl (ck rfl (ck rfl (ck rfl (ck rfl (ck rfl (ck rfl ?_)))))))
  show cP _ 22 [nodeV tM, .int .i64 18] (sg ++ e1) (pan K) _
  rw [cP, around_spec hL 18 6 (k - 1) tM _ (by omega) hM (by omega) wM, alA]
  generalize hr : (PV.list true (kidRows [tM, tC, .mk 24 ⟨#[]⟩ 10 21 [.mk 6 ⟨#[110]⟩ 10 21 [.mk 8 ⟨#[105, 110, 116]⟩ 17 20 [], .mk 24 ⟨#[]⟩ 20 20 []]], .mk 6 ⟨#[110]⟩ 10 21 [.mk 8 ⟨#[105, 110, 116]⟩ 17 20 [], .mk 24 ⟨#[]⟩ 20 20 []], .mk 8 ⟨#[105, 110, 116]⟩ 17 20 []])) = r
  show C n _ 10 _ (Law12_alive.S2 1 ⟨#[]⟩ 0 23 (kidRows [tC]) 0 0 3 ⟨#[65]⟩ 0 23 (kidRows tC.kids) (mval r) false) (sg ++ e1) _
  rw [C_eq, Law12_alive.cut2]
  subst hr
  repeat (first | ((with_reducible refine ck ?_ ?_); · kernel_rfl) | ((with_reducible refine no ?_ ?_); · kernel_rfl))
  show C n _ 10 _ (Law12_alive.S3 1 ⟨#[]⟩ 0 23 (kidRows [tC]) 0 0 3 ⟨#[65]⟩ 0 23 (kidRows tC.kids) (.list true _) false false) (sg ++ e1) _
  rw [C_eq, Law12_alive.cut3, cP]
  refine module_res hn hL (by omega) (by omega) (by omega) fun e2 => ?_
  rw [al2]
  show C n _ 10 _ (Law12_alive.S4 1 ⟨#[]⟩ 0 23 (kidRows [tC]) 0 0 3 ⟨#[65]⟩ 0 23 (kidRows tC.kids) _ 6 11 false false) (sg ++ e1 ++ e2) _
  rw [C_eq, Law12_alive.cut4, cP]
  refine module_res hn hL (by omega) (by omega) (by omega) fun e3 => ?_
  rw [al3]
  show C n _ 10 _ (Law12_alive.S5 1 ⟨#[]⟩ 0 23 (kidRows [tC]) 0 0 3 ⟨#[65]⟩ 0 23 (kidRows tC.kids) _ 6 11 10 11 false false) (sg ++ e1 ++ e2 ++ e3) _
  rw [C_eq, Law12_alive.cut5]
  repeat (first | ((with_reducible refine ck ?_ ?_); · kernel_rfl) | ((with_reducible refine no ?_ ?_); · kernel_rfl))
  show C n _ 10 _ (Law12_alive.S6 1 ⟨#[]⟩ 0 23 (kidRows [tC]) 0 0 3 ⟨#[65]⟩ 0 23 (kidRows tC.kids) _ 6 11 10 11 false false false) (sg ++ e1 ++ e2 ++ e3) _
  rw [C_eq, Law12_alive.cut6, cP]
  refine fragment_res hn hL (by omega) (by omega) (by omega) fun e4 => ?_
  rw [al4]
  show C n _ 10 _ (Law12_alive.S7 1 ⟨#[]⟩ 0 23 (kidRows [tC]) 0 0 3 ⟨#[65]⟩ 0 23 (kidRows tC.kids) _ 6 0 10 11 20 ⟨#[]⟩ 0 10 (kidRows tF.kids) false false false) (sg ++ e1 ++ e2 ++ e3 ++ e4) _
  rw [C_eq, Law12_alive.cut7, cP]
  refine fragment_res hn hL (by omega) (by omega) (by omega) fun e5 => ?_
  rw [al5]
  show C n _ 10 _ (Law12_alive.S8 1 ⟨#[]⟩ 0 23 (kidRows [tC]) 0 0 3 ⟨#[65]⟩ 0 23 (kidRows tC.kids) _ 6 0 10 0 20 ⟨#[]⟩ 0 10 (kidRows tF.kids) 25 ⟨#[83]⟩ 0 3 (kidRows []) false false false) (sg ++ e1 ++ e2 ++ e3 ++ e4 ++ e5) _
  rw [C_eq, Law12_alive.cut8, cP]
  refine fragment_res hn hL (by omega) (by omega) (by omega) fun e6 => ?_
  rw [al6]
  show C n _ 10 _ (Law12_alive.S9 1 ⟨#[]⟩ 0 23 (kidRows [tC]) 0 0 3 ⟨#[65]⟩ 0 23 (kidRows tC.kids) _ 6 0 4 0 20 ⟨#[]⟩ 0 10 (kidRows tF.kids) 25 ⟨#[83]⟩ 0 3 (kidRows []) 11 false false false) (sg ++ e1 ++ e2 ++ e3 ++ e4 ++ e5 ++ e6) _
  rw [C_eq, Law12_alive.cut9, cP]
  refine fragment_res hn hL (by omega) (by omega) (by omega) fun e7 => ?_
  rw [al7]
  show C n _ 10 _ (Law12_alive.S10 1 ⟨#[]⟩ 0 23 (kidRows [tC]) 0 0 3 ⟨#[65]⟩ 0 23 (kidRows tC.kids) _ 6 0 4 0 20 ⟨#[]⟩ 0 10 (kidRows tF.kids) 25 ⟨#[83]⟩ 0 3 (kidRows []) 11 1 false false false) (sg ++ e1 ++ e2 ++ e3 ++ e4 ++ e5 ++ e6 ++ e7) _
  rw [C_eq, Law12_alive.cut10]
  repeat (first | ((with_reducible refine ck ?_ ?_); · kernel_rfl) | ((with_reducible refine no ?_ ?_); · kernel_rfl))
  show C n _ 10 _ (Law12_alive.S11 1 ⟨#[]⟩ 0 23 (kidRows [tC]) 0 0 3 ⟨#[65]⟩ 0 23 (kidRows tC.kids) _ 6 0 4 0 20 ⟨#[]⟩ 0 10 (kidRows tF.kids) 25 ⟨#[83]⟩ 0 3 (kidRows []) 11 1 false false false _) (sg ++ e1 ++ e2 ++ e3 ++ e4 ++ e5 ++ e6 ++ e7) _
  rw [C_eq, Law12_alive.cut11]
  repeat ((with_reducible refine yes ?_ ?_); · kernel_rfl)
  show cB _ 17 [nodeV tM] _ (pan K) _
  rw [cB_of _ (fun K => right_spec hL tM hM wM xM (by omega)), alR, bcond_t]
  show cB _ 17 [nodeV tF] _ (pan K) _
  rw [cB_of _ (fun K => right_spec hL tF hF wF xF (by omega)), alR']
  have := h (e1 ++ e2 ++ e3 ++ e4 ++ e5 ++ e6 ++ e7)
  simp only [List.append_assoc] at this ⊢
  exact this
end
end Go.Ev
