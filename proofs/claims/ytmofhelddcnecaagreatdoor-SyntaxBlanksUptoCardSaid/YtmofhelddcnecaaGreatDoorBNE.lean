/- What Module and Fragment give lies within the source, in order; a module has the shape of one. -/
import Derived.Test.YtmofhelddcnecaaGreatDoorBN
import Derived.Test.YtmofhelddcnecaaGreatDoorBM
import Derived.Test.YtmofhelddcnecaaGreatDoorBW
set_option linter.unusedVariables false
set_option linter.unusedSimpArgs false
set_option linter.unusedSectionVars false
set_option maxRecDepth 4000
namespace Go.Ev
open PV
mutual
/-- A node's source contains that of its kids, which are in order. -/
def nsT : Tree → Bool
  | .mk _ _ a e ks => nsL a e ks
def nsL (lo hi : Int) : List Tree → Bool
  | [] => decide (lo ≤ hi)
  | x :: r => decide (lo ≤ x.at_) && (nsT x && nsL x.end_ hi r)
end
theorem nsL_nil {lo hi : Int} : nsL lo hi [] = true ↔ lo ≤ hi := by rw [nsL]; exact decide_eq_true_iff
theorem nsL_cons {lo hi : Int} {x : Tree} {r : List Tree} : nsL lo hi (x :: r) = true ↔ lo ≤ x.at_ ∧ nsT x = true ∧ nsL x.end_ hi r = true := by
  rw [nsL, Bool.and_eq_true, Bool.and_eq_true, decide_eq_true_iff]
mutual
theorem nsT_le : ∀ x : Tree, nsT x = true → x.at_ ≤ x.end_
  | .mk k t a e ks, h => by
    rw [nsT] at h
    exact nsL_le ks a e h
theorem nsL_le : ∀ (ks : List Tree) (lo hi : Int), nsL lo hi ks = true → lo ≤ hi
  | [], lo, hi, h => nsL_nil.1 h
  | x :: r, lo, hi, h => by
    obtain ⟨h1, h2, h3⟩ := nsL_cons.1 h
    have := nsT_le x h2
    have := nsL_le r _ _ h3
    omega
end
def posA (S : Src) (i : Nat) : Int := (peekT S.T S.sz i).at_
def posE (S : Src) (i : Nat) : Int := endT S.T i
structure OS (S : Src) : Prop where
  ea : ∀ i, i ≤ S.T.length → posE S i ≤ posA S i
  ae : ∀ i, i < S.T.length → posA S i ≤ posE S (i + 1)
/-- No metavariable; names, numbers and texts as they must be. -/
def Pl (S : Src) : Prop := ∀ i, i < S.T.length → (peekT S.T S.sz i).kind ≠ 6 ∧ (peekT S.T S.sz i).kind ≠ 7 ∧ ((peekT S.T S.sz i).kind = 1 → plainB (peekT S.T S.sz i).text = true) ∧ ((peekT S.T S.sz i).kind = 3 → digitsB (peekT S.T S.sz i).text = true) ∧ ((peekT S.T S.sz i).kind = 4 → textB (peekT S.T S.sz i).text = true)
section
variable {α β : Type} {S : Src} {nx : Nat}
/-- From a place on, what is read is as Q says. -/
def NG (S : Src) (nx : Nat) (p : Ps α) (Q : α → Nat → Prop) : Prop := nx ≤ S.T.length → ∀ x m, p S nx = .ok x m → nx ≤ m ∧ m ≤ S.T.length ∧ Q x m
theorem NG.bind {p : Ps α} {f : α → Ps β} {Q : α → Nat → Prop} {R : β → Nat → Prop} (hp : NG S nx p Q) (hf : ∀ y k, nx ≤ k → k ≤ S.T.length → Q y k → NG S k (f y) R) : NG S nx (p >>= f) R := fun h x m e => by
  obtain ⟨y, k, e1, e2⟩ := PR.bind_ok e
  obtain ⟨a, b, c⟩ := hp h y k e1
  obtain ⟨a', b', c'⟩ := hf y k a b c b x m e2
  exact ⟨by omega, b', c'⟩
theorem NG.mono {p : Ps α} {Q R : α → Nat → Prop} (h : NG S nx p Q) (hq : ∀ x m, nx ≤ m → m ≤ S.T.length → Q x m → R x m) : NG S nx p R := fun hn x m e => by
  obtain ⟨a, b, c⟩ := h hn x m e
  exact ⟨a, b, hq x m a b c⟩
theorem NG.pure {x : α} {Q : α → Nat → Prop} (h : Q x nx) : NG S nx (Pure.pure x : Ps α) Q := fun hn y m e => by cases e; exact ⟨Nat.le_refl _, hn, h⟩
theorem NG.fail {Q : α → Nat → Prop} : NG S nx (failP : Ps α) Q := fun _ _ _ e => by cases e
theorem NG.out {Q : α → Nat → Prop} : NG S nx (outP : Ps α) Q := fun _ _ _ e => by cases e
theorem NG.peek {f : Tok → Ps α} {Q : α → Nat → Prop} (h : NG S nx (f (peekT S.T S.sz nx)) Q) : NG S nx (peekP >>= f) Q := h
theorem NG.endp {f : Int → Ps α} {Q : α → Nat → Prop} (h : NG S nx (f (posE S nx)) Q) : NG S nx (endP >>= f) Q := h
theorem NG.size {f : Int → Ps α} {Q : α → Nat → Prop} (h : NG S nx (f S.sz) Q) : NG S nx (sizeP >>= f) Q := h
theorem NG.node {kd a : Int} {t : ByteArray} {ks : List Tree} {Q : Tree → Nat → Prop} (h : Q (.mk kd t a (posE S nx) ks) nx) : NG S nx (nodeP kd t a ks) Q := fun hn y m e => by cases e; exact ⟨Nat.le_refl _, hn, h⟩
theorem NG.need {t : ByteArray} {f : Unit → Ps α} {Q : α → Nat → Prop} (h : nx < S.T.length → NG S (nx + 1) (f ()) Q) : NG S nx (needP t >>= f) Q := fun hn x m e => by
  obtain ⟨y, k, e1, e2⟩ := PR.bind_ok e
  unfold needP at e1
  split at e1
  · rename_i hi
    cases e1
    have hl := isT_lt hi
    obtain ⟨a, b, c⟩ := h hl (by omega) x m e2
    exact ⟨by omega, b, c⟩
  · cases e1
theorem NG.kind {kd : Int} {f : Tok → Ps α} {Q : α → Nat → Prop} (h : nx < S.T.length → (peekT S.T S.sz nx).kind = kd → NG S (nx + 1) (f (peekT S.T S.sz nx)) Q) : NG S nx (kindP kd >>= f) Q := fun hn x m e => by
  obtain ⟨y, k, e1, e2⟩ := PR.bind_ok e
  unfold kindP at e1
  split at e1
  · rename_i hi
    cases e1
    obtain ⟨a, b, c⟩ := h hi.1 hi.2 (by omega) x m e2
    exact ⟨by omega, b, c⟩
  · cases e1
theorem NG.ite {c : Prop} [Decidable c] {a b : Ps α} {Q : α → Nat → Prop} (h1 : c → NG S nx a Q) (h2 : ¬ c → NG S nx b Q) : NG S nx (if c then a else b) Q := by split <;> rename_i h <;> first | exact h1 h | exact h2 h
theorem isT_text {t : ByteArray} {T : List Tok} {sz : Int} (h : isT T nx t = true) : (peekT T sz nx).text = t := by
  have hl := isT_lt h
  unfold isT at h
  have e : peekT T 0 nx = peekT T sz nx := by unfold peekT; rw [if_pos hl, if_pos hl]
  rw [e, Bool.and_eq_true] at h
  exact ba_ext (beq_iff_eq.1 (by rw [← str_eqb]; exact h.2))
theorem NG.isC {t : ByteArray} {p q : Ps α} {Q : α → Nat → Prop} (h1 : NG S nx p Q) (h2 : NG S nx q Q) : NG S nx (isC t p q) Q := fun hn x m e => by
  unfold Ev.isC at e
  split at e
  · exact h1 hn x m e
  · exact h2 hn x m e
theorem NG.tak {t : ByteArray} {p q : Ps α} {Q : α → Nat → Prop} (h1 : nx < S.T.length → (peekT S.T S.sz nx).text = t → NG S (nx + 1) p Q) (h2 : NG S nx q Q) : NG S nx (takeC t p q) Q := fun hn x m e => by
  unfold takeC at e
  split at e
  · rename_i hi
    have hl := isT_lt hi
    obtain ⟨a, b, c⟩ := h1 hl (isT_text hi) (by omega) x m e
    exact ⟨by omega, b, c⟩
  · exact h2 hn x m e
theorem NG.more {p q : Ps α} {Q : α → Nat → Prop} (h1 : NG S nx p Q) (h2 : NG S nx q Q) : NG S nx (moreC p q) Q := fun hn x m e => by
  unfold moreC at e
  split at e
  · exact h1 hn x m e
  · exact h2 hn x m e
end
section
variable {t : ByteArray} {a e : Int} {x y z : Tree} {l : List Tree}
end
end Go.Ev
set_option maxRecDepth 4000
namespace Go.Ev
open PV
/-- A tree that was read from nx to m. -/
structure NT (S : Src) (G : Tree → Bool) (nx : Nat) (x : Tree) (m : Nat) : Prop where
  lo : posA S nx ≤ x.at_
  hi : x.end_ ≤ posE S m
  ns : nsT x = true
  lt : nx < m
  fit : Pl S → G x = true
/-- A list that was read from nx to m. -/
structure NL (S : Src) (G : Tree → Bool) (nx : Nat) (l : List Tree) (m : Nat) : Prop where
  ns : nsL (posE S nx) (posE S m) l = true
  fit : Pl S → l.all G = true
section
variable {S : Src} (hS : OS S) {nx : Nat} {G : Tree → Bool}
include hS
section
variable {one : Ps Tree} (ho : ∀ nx, NG S nx one (NT S G nx))
include ho
end
section
variable {g : Nat} {E : Ps Tree} (hE : ∀ nx, NG S nx E (NT S (fitT .ex) nx))
include hE
end
section
variable {g : Nat} {R : Ps Tree} (hR : ∀ nx, NG S nx R (NT S (fitT .st) nx))
include hR
end
section
variable {w : W} {one : Ps Tree} (ho : ∀ nx, NG S nx one (NT S (fitT w) nx))
include ho
end
end
end Go.Ev
set_option maxRecDepth 4000
namespace Go.Ev
open PV
theorem litGo_in : ∀ (k : Nat) (l : List UInt8) (n : Nat) (acc : List UInt8), l.length ≤ k → acc.all inText = true → (litGo l n acc).err = 0 → (litGo l n acc).text.all inText = true
  | 0, [], n, acc, _, _, h => by simp [litGo, RK.bad] at h
  | 0, c :: t, n, acc, hk, _, h => by simp at hk
  | k + 1, [], n, acc, _, _, h => by simp [litGo, RK.bad] at h
  | k + 1, c :: t, n, acc, hk, ha, h => by
    simp only [List.length_cons] at hk
    have sn : ∀ b : UInt8, inText b = true → (acc ++ [b]).all inText = true := fun b hb => by rw [List.all_append, ha, List.all_cons, hb]; rfl
    by_cases h1 : c.toNat = 34
    · rw [litGo_q h1] at h ⊢
      split at h
      · simp [RK.bad] at h
      · rename_i hx
        rw [if_neg hx]
        exact ha
    · by_cases h2 : c.toNat < 32 ∨ 126 < c.toNat
      · rw [litGo_bad h1 h2] at h; simp [RK.bad] at h
      · by_cases h3 : c.toNat = 92
        · cases t with
          | nil => rw [litGo_end h3] at h; simp [RK.bad] at h
          | cons d u =>
            simp only [List.length_cons] at hk
            by_cases h4 : d.toNat = 34 ∨ d.toNat = 92
            · rw [litGo_esc h3 h4] at h ⊢
              exact litGo_in k u (n + 2) _ (by omega) (sn d (by unfold inText; rcases h4 with h4 | h4 <;> rw [h4] <;> rfl)) h
            · by_cases h5 : d.toNat = 110
              · rw [litGo_escn h3 h5] at h ⊢
                exact litGo_in k u (n + 2) _ (by omega) (sn 10 rfl) h
              · rw [litGo_escx h3 (by omega) (by omega) h5] at h; simp [RK.bad] at h
        · rw [litGo_ch h1 (by omega) (by omega) h3] at h ⊢
          refine litGo_in k t (n + 1) _ (by omega) (sn c ?_) h
          unfold inText
          rw [decide_eq_true (show 32 ≤ c.toNat by omega), decide_eq_true (show c.toNat ≤ 126 by omega), Bool.and_self, Bool.or_true]
/-- A token of a module. -/
def TokPl (t : Tok) : Prop := t.kind ≠ 6 ∧ t.kind ≠ 7 ∧ (t.kind = 1 → plainB t.text = true) ∧ (t.kind = 3 → digitsB t.text = true) ∧ (t.kind = 4 → textB t.text = true)
theorem rdTok_pl (l : List UInt8) (a b : Int) (h : (rdTok false l).err = 0) : TokPl ⟨(rdTok false l).kind, tx (rdTok false l).text, a, b⟩ := by
  unfold TokPl
  simp only
  cases l with
  | nil => simp [rdTok, RK.bad] at h
  | cons c t =>
    unfold rdTok at h ⊢
    simp only at h ⊢
    by_cases h1 : isLetterI c.toNat = true
    · rw [if_pos h1] at h ⊢
      unfold wordR at h ⊢
      by_cases h2 : isKwL (wordT (c :: t)) = true
      · rw [if_pos h2]; simp
      · rw [if_neg h2] at h ⊢
        by_cases h3 : 24 < (wordT (c :: t)).length
        · rw [if_pos h3] at h; simp [RK.bad] at h
        · rw [if_neg h3]
          refine ⟨by simp, by simp, fun _ => ?_, by simp, by simp⟩
          have e : wordT (c :: t) = (c :: t).takeWhile isWordB := (tw_take (c :: t) isWordB).1
          unfold plainB nameL
          rw [wordLen_all, tx_list, tx_size, show decide ((wordT (c :: t)).length ≤ 24) = true from decide_eq_true (by omega), show isKwL (wordT (c :: t)) = false by simpa using h2, e, List.all_takeWhile, List.takeWhile_cons, if_pos (show isWordB c = true by unfold isWordB; rw [h1]; rfl)]
          simp [h1]
    · rw [if_neg h1] at h ⊢
      by_cases h2 : isDigitI c.toNat = true
      · rw [if_pos h2] at h ⊢
        unfold intR at h ⊢
        split at h
        · simp [RK.bad] at h
        · rename_i hx
          rw [if_neg hx]
          split at h
          · simp [RK.bad] at h
          · rename_i hy
            rw [if_neg hy]
            refine ⟨by simp, by simp, by simp, fun _ => ?_, by simp⟩
            have e : (c :: t).take (digLen (c :: t)) = (c :: t).takeWhile isDigitB := (tw_take (c :: t) isDigitB).1
            have hl : ((c :: t).takeWhile isDigitB).length = digLen (c :: t) := rfl
            have hp : 0 < digLen (c :: t) := by rw [digLen_cons, if_pos (show isDigitB c = true from h2)]; omega
            have hh : ((c :: t).takeWhile isDigitB).head? = some c := by rw [List.takeWhile_cons, if_pos (show isDigitB c = true from h2)]; rfl
            unfold digitsB
            rw [tx_list, tx_size, e, List.all_takeWhile, hl, hh, decide_eq_true hp, decide_eq_true (show digLen (c :: t) ≤ 9 by omega)]
            simp only [List.head?_cons, Bool.and_eq_true, decide_eq_true_eq, not_and, beq_iff_eq] at hx
            by_cases h48 : (some c == some (48 : UInt8)) = true
            · have := hx (beq_iff_eq.1 h48)
              rw [show (digLen (c :: t) == 1) = true by simp; omega]; rfl
            · rw [show (some c == some (48 : UInt8)) = false by simpa using h48]; simp
      · rw [if_neg h2] at h ⊢
        by_cases h3 : c.toNat = 34
        · rw [if_pos h3] at h ⊢
          have h5 := litGo_acc _ _ _ _ (Nat.le_refl _) h
          have h6 := litGo_in _ _ _ _ (Nat.le_refl _) rfl h
          unfold litR
          rw [h5.2]
          refine ⟨by simp, by simp, by simp, by simp, fun _ => ?_⟩
          unfold textB
          rw [tx_list, tx_size, h6, decide_eq_true h5.1]; rfl
        · rw [if_neg h3] at h ⊢
          rw [if_neg (by simp)] at h ⊢
          unfold markR at h ⊢
          split at h
          · rename_i hx; rw [if_pos hx]; simp
          · rename_i hx
            rw [if_neg hx]
            split at h
            · rename_i hy; rw [if_pos hy]; simp
            · simp [RK.bad] at h
theorem eqB_size {a b : ByteArray} (h : eqB a b = true) : a.size = b.size := by
  unfold eqB at h
  rw [str_eqb, beq_iff_eq] at h
  rw [← len_data, ← len_data, h]
theorem any_size {m : Nat} {l : List ByteArray} (hl : l.all (fun b => decide (b.size ≤ m)) = true) {t : ByteArray} (h : l.any (eqB t) = true) : t.size ≤ m := by
  obtain ⟨b, hb, he⟩ := List.any_eq_true.1 h
  rw [eqB_size he]
  exact of_decide_eq_true (List.all_eq_true.1 hl b hb)
theorem plainB_size {t : ByteArray} (h : plainB t = true) : t.size ≤ 24 := by
  unfold plainB at h
  rw [Bool.and_eq_true] at h
  exact of_decide_eq_true h.2
theorem typeB_size {t : ByteArray} (h : typeB t = true) : t.size ≤ 49 := by
  unfold typeB typeL at h
  rw [Bool.and_eq_true, Bool.or_eq_true] at h
  have h1 := plainB_size h.1
  rw [tx_size] at h1
  have h2 := congrArg List.length (List.takeWhile_append_dropWhile (p := fun c => !isDotB c) (l := t.data.toList))
  rw [List.length_append, len_data] at h2
  rcases h.2 with h3 | h3
  · have : t.data.toList.any isDotB = false := by simpa using h3
    rw [tw_all _ this, len_data] at h1
    omega
  · have h4 := plainB_size h3
    rw [tx_size, List.length_drop] at h4
    omega
theorem okIf_some {b : Bool} {l ws : List W} (h : okIf b l = some ws) : b = true ∧ l = ws := by
  cases b with
  | true => exact ⟨rfl, by cases h; rfl⟩
  | false => cases h
theorem need_ok (w : W) (k : Int) (t : ByteArray) (n : Nat) (ws : List W) (h : needW w k t n = some ws) : t.size < 100 ∧ ws.length = n := by
  have nz : noB t = true → t.size < 100 := fun h => by have := eqB_size h; have : (⟨#[]⟩ : ByteArray).size = 0 := rfl; omega
  have va : needVa k t n = some ws → t.size < 100 ∧ ws.length = n := fun h => by
    obtain ⟨h1, rfl⟩ := okIf_some h
    simp only [Bool.and_eq_true, beq_iff_eq] at h1
    exact ⟨by have := plainB_size h1.2.1; omega, by simp [h1.2.2]⟩
  have fu : ∀ b, needFu b k t n = some ws → t.size < 100 ∧ ws.length = n := fun b h => by
    obtain ⟨h1, rfl⟩ := okIf_some h
    simp only [Bool.and_eq_true, beq_iff_eq] at h1
    exact ⟨by have := plainB_size h1.2.1; omega, by simp [h1.2.2]⟩
  have bl : needBl k t n = some ws → t.size < 100 ∧ ws.length = n := fun h => by
    obtain ⟨h1, rfl⟩ := okIf_some h
    simp only [Bool.and_eq_true, beq_iff_eq] at h1
    exact ⟨nz h1.2, by simp⟩
  have me : needMe k t n = some ws → t.size < 100 ∧ ws.length = n := fun h => by
    unfold needMe at h
    split at h
    · exact va h
    · exact fu _ h
  cases w with
  | ex =>
    replace h : needEx k t n = some ws := h
    unfold needEx at h
    split at h
    · obtain ⟨h1, rfl⟩ := okIf_some h
      simp only [Bool.and_eq_true, beq_iff_eq] at h1
      exact ⟨by have := plainB_size h1.2; omega, by simp [h1.1]⟩
    split at h
    · obtain ⟨h1, rfl⟩ := okIf_some h
      simp only [Bool.and_eq_true, beq_iff_eq, digitsB, decide_eq_true_eq] at h1
      exact ⟨by omega, by simp [h1.1]⟩
    split at h
    · obtain ⟨h1, rfl⟩ := okIf_some h
      simp only [Bool.and_eq_true, beq_iff_eq, textB, decide_eq_true_eq] at h1
      exact ⟨by omega, by simp [h1.1]⟩
    split at h
    · obtain ⟨h1, rfl⟩ := okIf_some h
      simp only [Bool.and_eq_true, beq_iff_eq] at h1
      exact ⟨by have := any_size (m := 10) (by kernel_rfl) h1.2; omega, by simp [h1.1]⟩
    split at h
    · obtain ⟨h1, rfl⟩ := okIf_some h
      simp only [Bool.and_eq_true, beq_iff_eq] at h1
      exact ⟨by have := plainB_size h1.2; omega, by simp [h1.1]⟩
    split at h
    · obtain ⟨h1, rfl⟩ := okIf_some h
      simp only [Bool.and_eq_true] at h1
      exact ⟨nz h1.2, by simp⟩
    split at h
    · obtain ⟨h1, rfl⟩ := okIf_some h
      exact ⟨by have := typeB_size h1; omega, by simp⟩
    split at h
    · obtain ⟨h1, rfl⟩ := okIf_some h
      simp only [Bool.and_eq_true, beq_iff_eq, Bool.or_eq_true] at h1
      exact ⟨by rcases h1.2 with h2 | h2 <;> · have := eqB_size h2; rw [this]; decide, by simp [h1.1]⟩
    split at h
    · obtain ⟨h1, rfl⟩ := okIf_some h
      simp only [Bool.and_eq_true, beq_iff_eq] at h1
      exact ⟨by have := any_size (m := 10) (by kernel_rfl) h1.2; omega, by simp [h1.1]⟩
    · cases h
  | ty =>
    obtain ⟨h1, rfl⟩ := okIf_some h
    simp only [Bool.and_eq_true, beq_iff_eq] at h1
    exact ⟨by have := typeB_size h1.2.2; omega, by simp [h1.2.1]⟩
  | pa =>
    obtain ⟨h1, rfl⟩ := okIf_some h
    simp only [Bool.and_eq_true, beq_iff_eq] at h1
    exact ⟨by have := plainB_size h1.2.1; omega, by simp [h1.2.2]⟩
  | st =>
    replace h : needSt k t n = some ws := h
    unfold needSt at h
    split at h
    · exact va h
    split at h
    · cases h
    rename_i hz
    have hz : noB t = true := by simpa using hz
    split at h
    · exact bl h
    split at h
    · obtain ⟨h1, rfl⟩ := okIf_some h
      exact ⟨nz hz, by simp⟩
    split at h
    · obtain ⟨h1, rfl⟩ := okIf_some h
      exact ⟨nz hz, by simp [beq_iff_eq.1 h1]⟩
    split at h
    · obtain ⟨h1, rfl⟩ := okIf_some h
      exact ⟨nz hz, by simp [beq_iff_eq.1 h1]⟩
    split at h
    · obtain ⟨h1, rfl⟩ := okIf_some h
      exact ⟨nz hz, by simp [beq_iff_eq.1 h1]⟩
    split at h
    · obtain ⟨h1, rfl⟩ := okIf_some h
      exact ⟨nz hz, by simp [beq_iff_eq.1 h1]⟩
    · cases h
  | bl => exact bl h
  | de =>
    replace h : needDe k t n = some ws := h
    unfold needDe at h
    split at h
    · obtain ⟨h1, rfl⟩ := okIf_some h
      simp only [Bool.and_eq_true, beq_iff_eq] at h1
      exact ⟨by have := plainB_size h1.1; omega, by simp [h1.2]⟩
    split at h
    · obtain ⟨h1, rfl⟩ := okIf_some h
      simp only [Bool.and_eq_true, beq_iff_eq] at h1
      exact ⟨by have := plainB_size h1.1; omega, by simp [h1.2]⟩
    · exact me h
  | me => exact me h
  | si => exact fu _ h
  | va => exact va h
  | fu b => exact fu _ h
  | row w lo hi =>
    obtain ⟨h1, rfl⟩ := okIf_some h
    simp only [Bool.and_eq_true, beq_iff_eq] at h1
    exact ⟨nz h1.2.1, by simp⟩
mutual
theorem fit_txt : ∀ (x : Tree) (w : W), fitT w x = true → Txt 100 x
  | .mk k t a e ks, w, h => by
    rw [fitT] at h
    cases hn : needW w k t ks.length with
    | none => rw [hn] at h; cases h
    | some ws =>
      rw [hn] at h
      obtain ⟨h1, h2⟩ := need_ok w k t _ ws hn
      exact .mk k t a e ks h1 (fitS_txt ks ws h2 h)
theorem fitS_txt : ∀ (ks : List Tree) (ws : List W), ws.length = ks.length → fitS ws ks = true → ∀ x ∈ ks, Txt 100 x
  | [], ws, hl, h => fun x hx => by cases hx
  | y :: r, [], hl, h => by simp at hl
  | y :: r, w :: ws, hl, h => by
    rw [fitS, Bool.and_eq_true] at h
    have h1 := fit_txt y w h.1
    have h2 := fitS_txt r ws (by simpa using hl) h.2
    intro x hx
    rcases List.mem_cons.1 hx with rfl | hx
    · exact h1
    · exact h2 x hx
end
end Go.Ev
