/- The document's parser gives what the plain one gives. -/
import Derived.Test.YtmofhelddcnecaaGreatDoorVS
import Derived.Test.YtmofhelddcnecaaGreatDoorVYa
import Derived.Test.YtmofhelddcnecaaGreatDoorVYb
import Derived.Test.YtmofhelddcnecaaGreatDoorVYc
import Derived.Lib.Strings
set_option linter.unusedVariables false
set_option linter.unusedSimpArgs false
namespace Go.Ev
open PV
/-- The document's parser's object; b: the offset of an error, once there is one. -/
def rsg (pre post : List (List PV)) (S : Src) (nx : Nat) (b : Option Int) : List (List PV) := pre ++ [.list false (S.T.map tokRow), .int .i64 nx, .int .i64 S.sz, .bool b.isSome, .int .i64 (b.getD 0)] :: post
/-- What is to come: P, or G once there is an error. -/
def UU (b : Option Int) (nx : Nat) (P : Prop) (G : Int → Nat → Prop) : Prop := match b with
  | some a => G a nx
  | none => P
section
variable {pre post : List (List PV)} {S : Src} {nx n k : Nat} {b : Option Int} {X : PV → List (List PV) → Prop}
theorem rsg_nx (K : Int → Prop) : oI (rsg pre post S nx b) pre.length 1 K = K nx := oI_at _ _ _ 1 _ _ rfl
theorem rsg_sz (K : Int → Prop) : oI (rsg pre post S nx b) pre.length 2 K = K S.sz := oI_at _ _ _ 2 _ _ rfl
theorem rsg_T (K : List (List PV) → Prop) : oL (rsg pre post S nx b) pre.length 0 K = K (S.T.map tokRow) := oL_at _ _ _ 0 _ _ rfl
theorem rsg_bad (K : Bool → Prop) : oB (rsg pre post S nx b) pre.length 3 K = K b.isSome := oB_at _ _ _ 3 _ _ rfl
theorem rsg_set (m : Nat) (K : List (List PV) → Prop) : objSet (rsg pre post S nx b) pre.length 1 [.int .i64 m] K = K (rsg pre post S m b) := by
  rw [rsg, objSet_at]; rfl
theorem tok_at {S : Src} {nx : Nat} (hn : nx < S.T.length) (sz : Int) : rowAt (S.T.map tokRow) (nx : Int) = tokRow (peekT S.T sz nx) := by
  rw [rowAt_map tokRow S.T _ default (by omega) (by omega)]; unfold peekT; rw [if_pos hn]; congr 2
theorem tok_ok {S : Src} {nx : Nat} (hn : nx < S.T.length) : (rowsOk 4 (S.T.map tokRow) && (decide ((0 : Int) ≤ (nx : Int)) && decide ((nx : Int) < ((S.T.map tokRow).length : Int)))) = true := by
  have h1 : decide ((0 : Int) ≤ (nx : Int)) = true := decide_eq_true (by omega)
  have h2 : decide ((nx : Int) < ((S.T.map tokRow).length : Int)) = true := decide_eq_true (by simp; omega)
  rw [rowsOk_map tokRow 4 tokRow_len, h1, h2]; rfl
def kindV (S : Src) (nx : Nat) (b : Option Int) : Int := match b with
  | some _ => 0
  | none => (peekT S.T S.sz nx).kind
theorem rkind_spec {K : Res → Out} (hk : 1 ≤ k) (hs : Fit S nx) : callW (En n) k 83 [.ptr pre.length 0] (rsg pre post S nx b) K = K ⟨false, .int .i64 (kindV S nx b)⟩ (rsg pre post S nx b) := by
  rw [callW_at (by omega) rfl, R12_parser_kind.eq, rsg_bad]
  cases b with
  | some a => rfl
  | none =>
    show bcond false _ _ = _
    rw [bcond_f, rsg_nx, rsg_T]
    by_cases hn : nx < S.T.length
    · have h1 : decide ((nx : Int) ≥ ((S.T.map tokRow).length : Int)) = false := decide_eq_false (by simp; omega)
      rw [h1, bcond_f, rsg_T, rsg_nx, tok_ok hn, tok_at hn S.sz]
      rfl
    · have h1 : decide ((nx : Int) ≥ ((S.T.map tokRow).length : Int)) = true := decide_eq_true (by simp; omega)
      rw [h1, bcond_t]
      unfold kindV peekT; rw [if_neg hn]
theorem rfrom_spec {K : Res → Out} (hk : 1 ≤ k) (hs : Fit S nx) : callW (En n) k 64 [.ptr pre.length 0] (rsg pre post S nx b) K = K ⟨false, .int .i64 (peekT S.T S.sz nx).at_⟩ (rsg pre post S nx b) := by
  rw [callW_at (by omega) rfl, R12_parser_from.eq, rsg_nx, rsg_T]
  by_cases hn : nx < S.T.length
  · have h1 : decide ((nx : Int) < ((S.T.map tokRow).length : Int)) = true := decide_eq_true (by simp; omega)
    rw [h1, bcond_t, rsg_T, rsg_nx, tok_ok hn, tok_at hn S.sz]
    rfl
  · have h1 : decide ((nx : Int) < ((S.T.map tokRow).length : Int)) = false := decide_eq_false (by simp; omega)
    rw [h1, bcond_f, rsg_sz]
    unfold peekT; rw [if_neg hn]
theorem rlast_spec {K : Res → Out} (hk : 1 ≤ k) (hs : Fit S nx) : callW (En n) k 89 [.ptr pre.length 0] (rsg pre post S nx b) K = K ⟨false, .int .i64 (endT S.T nx)⟩ (rsg pre post S nx b) := by
  have hl := hs.len; have hle := hs.le
  rw [callW_at (by omega) rfl, R12_parser_last.eq, rsg_nx]
  cases nx with
  | zero => rfl
  | succ m =>
    have h0 : (((m + 1 : Nat) : Int) == 0) = false := by simp; omega
    have hw : IntKind.i64.wrap (((m + 1 : Nat) : Int) - 1) = m := by
      rw [wrap_id _ (by omega) (by omega)]; omega
    have hm : m < S.T.length := by omega
    rw [h0, bcond_f, rsg_T, rsg_nx, hw, tok_ok hm, tok_at hm S.sz]
    unfold endT peekT; rw [if_pos hm, if_neg (by omega)]
    rfl
theorem ris_spec {K : Res → Out} (hk : 2 ≤ k) (hs : Fit S nx) (kd : Int) (t : ByteArray) (hd : kd ≠ 0) : callW (En n) k 63 [.ptr pre.length 0, .int .i64 kd, .str t] (rsg pre post S nx b) K = K ⟨false, .bool (kindV S nx b == kd && (peekT S.T S.sz nx).text.toList == t.toList)⟩ (rsg pre post S nx b) := by
  rw [callW_at (by omega) rfl, R12_parser_is.eq, cI_of _ (fun K => rkind_spec (by omega) hs)]
  by_cases h : kindV S nx b = kd
  · have hn : nx < S.T.length := by
      cases b with
      | some a => exact absurd h.symm hd
      | none => exact peekT_lt (by rw [show (peekT S.T S.sz nx).kind = kd from h]; exact hd)
    have h1 : (kindV S nx b == kd) = true := by simp [h]
    rw [h1, bcond_t, rsg_T, rsg_nx, tok_ok hn, tok_at hn S.sz]
    rfl
  · have h1 : (kindV S nx b == kd) = false := by simp [h]
    rw [h1, bcond_f]; rfl
/-- A mark's or a keyword's kind. -/
def fitK (kd : Int) (t : ByteArray) : Prop := kd = 2 ∧ wordy t = true ∨ kd = 5 ∧ wordy t = false
theorem is_isT (hs : Fit S nx) {kd : Int} {t : ByteArray} (hk : fitK kd t) : (kindV S nx none == kd && (peekT S.T S.sz nx).text.toList == t.toList) = isT S.T nx t := by
  unfold isT kindV
  rw [(peek_same (a := 0) (b := S.sz)).1, (peek_same (a := 0) (b := S.sz)).2]
  by_cases ht : ((peekT S.T S.sz nx).text.toList == t.toList) = true
  · have ht' : (peekT S.T S.sz nx).text.toList = t.toList := by simpa using ht
    have hw : wordy (peekT S.T S.sz nx).text = wordy t := by unfold wordy; rw [← Lib.toList_data, ← Lib.toList_data, ht']
    rw [ht, Bool.and_true, Bool.and_true]
    by_cases hn : nx < S.T.length
    · have hm : peekT S.T S.sz nx ∈ S.T := by unfold peekT; rw [if_pos hn, List.getD_eq_getElem?_getD, List.getElem?_eq_getElem hn]; exact List.getElem_mem hn
      have := hs.sane _ hm
      rw [hw] at this
      rcases hk with ⟨rfl, hk⟩ | ⟨rfl, hk⟩
      · have h5 : ((peekT S.T S.sz nx).kind == 5) = false := by
          simp only [beq_eq_false_iff_ne]; intro h; rw [this.2 h] at hk; cases hk
        rw [h5, Bool.false_or]
      · have h2 : ((peekT S.T S.sz nx).kind == 2) = false := by
          simp only [beq_eq_false_iff_ne]; intro h; rw [this.1 h] at hk; cases hk
        rw [h2, Bool.or_false]
    · have h0 : (peekT S.T S.sz nx).kind = 0 := by unfold peekT; rw [if_neg hn]
      rw [h0]
      rcases hk with ⟨rfl, _⟩ | ⟨rfl, _⟩ <;> rfl
  · rw [Bool.not_eq_true] at ht
    rw [ht, Bool.and_false, Bool.and_false]
theorem rskip_spec {K : Res → Out} (hk : 3 ≤ k) (hs : Fit S nx) (kd : Int) (t : ByteArray) (hd : fitK kd t) : callW (En n) k 87 [.ptr pre.length 0, .int .i64 kd, .str t] (rsg pre post S nx b) K =
    K ⟨false, .bool (b.isNone && isT S.T nx t)⟩ (rsg pre post S (if (b.isNone && isT S.T nx t) = true then nx + 1 else nx) b) := by
  have hl := hs.len; have hle := hs.le
  have hd0 : kd ≠ 0 := by rcases hd with ⟨rfl, _⟩ | ⟨rfl, _⟩ <;> decide
  rw [callW_at (by omega) rfl, R12_parser_skip.eq, cB_of _ (fun K => ris_spec (by omega) hs kd t hd0)]
  have e : (kindV S nx b == kd && (peekT S.T S.sz nx).text.toList == t.toList) = (b.isNone && isT S.T nx t) := by
    cases b with
    | none => rw [is_isT hs hd]; rfl
    | some a => have : (kindV S nx (some a) == kd) = false := by simp [kindV]; exact fun h => hd0 h.symm
                rw [this]; rfl
  rw [e]
  cases h : (b.isNone && isT S.T nx t) with
  | false => rfl
  | true =>
    have hw : IntKind.i64.wrap ((nx : Int) + 1) = ((nx + 1 : Nat) : Int) := wrap_id _ (by omega) (by omega)
    rw [Bool.not_true, bcond_f, C_eq, R12_parser_skip.cut0, rsg_nx, hw, rsg_set]; rfl
theorem rfail_spec {K : Res → Out} (hk : 1 ≤ k) (hs : Fit S nx) : callW (En n) k 68 [.ptr pre.length 0] (rsg pre post S nx b) K = K ⟨false, .tup []⟩ (rsg pre post S nx (some (b.getD (peekT S.T S.sz nx).at_))) := by
  rw [callW_at (by omega) rfl, R12_parser_fail.eq, rsg_bad]
  cases b with
  | some a => rfl
  | none =>
    have e1 : ∀ K, objSet (rsg pre post S nx none) pre.length 3 [.bool true] K = K (pre ++ [.list false (S.T.map tokRow), .int .i64 nx, .int .i64 S.sz, .bool true, .int .i64 0] :: post) := fun K => by rw [rsg, objSet_at]; rfl
    have e2 : ∀ (x y : Int) K, objSet (pre ++ [.list false (S.T.map tokRow), .int .i64 nx, .int .i64 S.sz, .bool true, .int .i64 x] :: post) pre.length 4 [.int .i64 y] K = K (pre ++ [.list false (S.T.map tokRow), .int .i64 nx, .int .i64 S.sz, .bool true, .int .i64 y] :: post) := fun x y K => by rw [objSet_at]; rfl
    have e3 : ∀ x K, oI (pre ++ [.list false (S.T.map tokRow), .int .i64 nx, .int .i64 S.sz, .bool true, .int .i64 x] :: post) pre.length 2 K = K S.sz := fun x K => oI_at _ _ _ 2 _ _ rfl
    have e4 : ∀ x K, oI (pre ++ [.list false (S.T.map tokRow), .int .i64 nx, .int .i64 S.sz, .bool true, .int .i64 x] :: post) pre.length 1 K = K nx := fun x K => oI_at _ _ _ 1 _ _ rfl
    have e5 : ∀ x K, oL (pre ++ [.list false (S.T.map tokRow), .int .i64 nx, .int .i64 S.sz, .bool true, .int .i64 x] :: post) pre.length 0 K = K (S.T.map tokRow) := fun x K => oL_at _ _ _ 0 _ _ rfl
    show bcond false _ _ = _
    rw [bcond_f, e1, e3, e2, e4, e5]
    by_cases hn : nx < S.T.length
    · have h1 : decide ((nx : Int) < ((S.T.map tokRow).length : Int)) = true := decide_eq_true (by simp; omega)
      rw [h1, bcond_t, e5, e4, tok_ok hn, tok_at hn S.sz]
      show objSet _ _ _ [.int .i64 (peekT S.T S.sz nx).at_] _ = _
      rw [e2]; rfl
    · have h1 : decide ((nx : Int) < ((S.T.map tokRow).length : Int)) = false := decide_eq_false (by simp; omega)
      rw [h1, bcond_f]
      have : (peekT S.T S.sz nx).at_ = S.sz := by unfold peekT; rw [if_neg hn]
      rw [this]; rfl
/- The steps. -/
variable {α : Type} {G : Int → Nat → Prop}
theorem r_want {F : Unit → Nat → Prop} {kd : Int} {t : ByteArray} {Kc : PV → Out} (hs : Fit S nx) (h : UU b nx (Rn (needP t) S nx F G) G) (h1 : ∀ m b', Fit S m → UU b' m (F () m) G → Kc (.tup []) (rsg pre post S m b')) (hd : fitK kd t := by first | exact .inr ⟨rfl, rfl⟩ | exact .inl ⟨rfl, rfl⟩) (hk : 4 ≤ k := by omega) :
    cP (callW (En n) k) 66 [.ptr pre.length 0, .int .i64 kd, .str t] (rsg pre post S nx b) X Kc := by
  rw [cP, callW_at (by omega) rfl, R12_parser_want.eq, cB_of _ (fun K => rskip_spec (by omega) hs kd t hd)]
  cases b with
  | some a =>
    show bcond true _ _
    rw [bcond_t, cP]
    show callW (En n) (k - 1) 68 [.ptr pre.length 0] (rsg pre post S nx (some a)) _
    rw [rfail_spec (by omega) hs]
    exact h1 _ _ hs h
  | none =>
    have h : Rn (needP t) S nx F G := h
    unfold Rn needP at h
    cases e : isT S.T nx t <;> rw [e] at h
    · show bcond true _ _
      rw [bcond_t, cP]
      show callW (En n) (k - 1) 68 [.ptr pre.length 0] (rsg pre post S nx none) _
      rw [rfail_spec (by omega) hs]
      exact h1 _ (some _) hs h
    · show bcond false _ _
      rw [bcond_f]
      exact h1 _ none (hs.mv (isT_lt e)) h
theorem r_skip {F : α → Nat → Prop} {kd : Int} {t : ByteArray} {p q : Ps α} {A B : Bool → Out} (hs : Fit S nx) (h : UU b nx (Rn (takeC t p q) S nx F G) G) (h1 : b = none → Fit S (nx + 1) → UU none (nx + 1) (Rn p S (nx + 1) F G) G → A true (rsg pre post S (nx + 1) none)) (h2 : (b = none → isT S.T nx t = false) → UU b nx (Rn q S nx F G) G → B false (rsg pre post S nx b)) (hd : fitK kd t := by first | exact .inr ⟨rfl, rfl⟩ | exact .inl ⟨rfl, rfl⟩) (hk : 3 ≤ k := by omega) :
    cB (callW (En n) k) 87 [.ptr pre.length 0, .int .i64 kd, .str t] (rsg pre post S nx b) X (fun c s => bcond c (A c s) (B c s)) := by
  rw [cB_of _ (fun K => rskip_spec hk hs kd t hd)]
  cases b with
  | some a => exact h2 (fun h => by cases h) h
  | none =>
    have h : Rn (takeC t p q) S nx F G := h
    unfold Rn takeC at h
    cases e : isT S.T nx t <;> rw [e] at h
    · exact h2 (fun _ => e) h
    · exact h1 rfl (hs.mv (isT_lt e)) h
theorem r_skipN {F : α → Nat → Prop} {kd : Int} {t : ByteArray} {p q : Ps α} {A B : Bool → Out} (hs : Fit S nx) (h : UU b nx (Rn (takeC t p q) S nx F G) G) (h1 : b = none → Fit S (nx + 1) → UU none (nx + 1) (Rn p S (nx + 1) F G) G → B true (rsg pre post S (nx + 1) none)) (h2 : UU b nx (Rn q S nx F G) G → A false (rsg pre post S nx b)) (hd : fitK kd t := by first | exact .inr ⟨rfl, rfl⟩ | exact .inl ⟨rfl, rfl⟩) (hk : 3 ≤ k := by omega) :
    cB (callW (En n) k) 87 [.ptr pre.length 0, .int .i64 kd, .str t] (rsg pre post S nx b) X (fun c s => bcond (!c) (A c s) (B c s)) := by
  rw [cB_of _ (fun K => rskip_spec hk hs kd t hd)]
  cases b with
  | some a => exact h2 h
  | none =>
    have h : Rn (takeC t p q) S nx F G := h
    unfold Rn takeC at h
    cases e : isT S.T nx t <;> rw [e] at h
    · exact h2 h
    · exact h1 rfl (hs.mv (isT_lt e)) h
theorem fitK0 {kd : Int} {t : ByteArray} (hd : fitK kd t) : kd ≠ 0 := by rcases hd with ⟨rfl, _⟩ | ⟨rfl, _⟩ <;> decide
theorem ris_of (hs : Fit S nx) {kd : Int} {t : ByteArray} (hd : fitK kd t) : (kindV S nx b == kd && (peekT S.T S.sz nx).text.toList == t.toList) = (b.isNone && isT S.T nx t) := by
  cases b with
  | none => rw [is_isT hs hd]; rfl
  | some a =>
    have : (kindV S nx (some a) == kd) = false := by simp [kindV]; exact fun h => fitK0 hd h.symm
    rw [this]; rfl
/-- A question, whatever is done with the answer. -/
theorem r_ask {kd : Int} {t : ByteArray} {Kc : Bool → Out} (hs : Fit S nx) (h1 : b = none → isT S.T nx t = true → (peekT S.T S.sz nx).kind = kd → (peekT S.T S.sz nx).text.toList = t.toList → Kc true (rsg pre post S nx b)) (h2 : (b = none → isT S.T nx t = false) → Kc false (rsg pre post S nx b)) (hd : fitK kd t := by first | exact .inr ⟨rfl, rfl⟩ | exact .inl ⟨rfl, rfl⟩) (hk : 2 ≤ k := by omega) :
    cB (callW (En n) k) 63 [.ptr pre.length 0, .int .i64 kd, .str t] (rsg pre post S nx b) X Kc := by
  rw [cB_of _ (fun K => ris_spec hk hs kd t (fitK0 hd))]
  cases b with
  | some a => rw [ris_of hs hd]; exact h2 (fun h => by cases h)
  | none =>
    cases e : isT S.T nx t with
    | false => rw [ris_of hs hd, e]; exact h2 (fun _ => e)
    | true =>
      have e2 := is_isT hs hd
      rw [e, Bool.and_eq_true] at e2
      rw [ris_of hs hd, e]
      exact h1 rfl e (by simpa [kindV] using e2.1) (by simpa using e2.2)
theorem r_kindC {F : α → Nat → Prop} {kd : Int} {p q : Ps α} {A B : Prop} (h : UU b nx (Rn (if (peekT S.T S.sz nx).kind = kd then p else q) S nx F G) G) (h1 : b = none → (peekT S.T S.sz nx).kind = kd → UU none nx (Rn p S nx F G) G → A) (h2 : (b = none → (peekT S.T S.sz nx).kind ≠ kd) → UU b nx (Rn q S nx F G) G → B) (hd : kd ≠ 0 := by decide) : bcond (kindV S nx b == kd) A B := by
  cases b with
  | some a =>
    have : (kindV S nx (some a) == kd) = false := by simp [kindV]; exact fun h => hd h.symm
    rw [this, bcond_f]; exact h2 (fun h => by cases h) h
  | none =>
    have h : Rn (if (peekT S.T S.sz nx).kind = kd then p else q) S nx F G := h
    by_cases e : (peekT S.T S.sz nx).kind = kd
    · rw [if_pos e] at h
      have : (kindV S nx none == kd) = true := by simp [kindV, e]
      rw [this, bcond_t]; exact h1 rfl e h
    · rw [if_neg e] at h
      have : (kindV S nx none == kd) = false := by simp [kindV, e]
      rw [this, bcond_f]; exact h2 (fun _ => e) h
theorem r_text {F : Tok → Nat → Prop} {kd : Int} {Kc : ByteArray → Out} (hs : Fit S nx) (h : UU b nx (Rn (kindP kd) S nx F G) G) (h1 : ∀ (t : Tok) m b', t.text.size ≤ 1000000000 → (b' = none → t = peekT S.T S.sz nx) → Fit S m → UU b' m (F t m) G → Kc t.text (rsg pre post S m b')) (hd : kd ≠ 0 := by decide) (hk : 2 ≤ k := by omega) :
    cS (callW (En n) k) 65 [.ptr pre.length 0, .int .i64 kd] (rsg pre post S nx b) X Kc := by
  have hl := hs.len; have hle := hs.le
  rw [cS, callW_at (by omega) rfl, R12_parser_text.eq, cI_of _ (fun K => rkind_spec (by omega) hs)]
  by_cases e : kindV S nx b = kd
  · cases b with
    | some a => exact absurd e.symm hd
    | none =>
      have e : (peekT S.T S.sz nx).kind = kd := e
      have h2 : (kindV S nx none != kd) = false := by simp [kindV, e]
      have hn : nx < S.T.length := peekT_lt (by rw [e]; exact hd)
      have hz : (peekT S.T S.sz nx).text.size ≤ 1000000000 := hs.small _ (by unfold peekT; rw [if_pos hn, List.getD_eq_getElem?_getD, List.getElem?_eq_getElem hn]; exact List.getElem_mem hn)
      have hw : IntKind.i64.wrap ((nx : Int) + 1) = ((nx + 1 : Nat) : Int) := wrap_id _ (by omega) (by omega)
      have hw2 : IntKind.i64.wrap (((nx + 1 : Nat) : Int) - 1) = (nx : Int) := by rw [wrap_id _ (by omega) (by omega)]; omega
      have h : Rn (kindP kd) S nx F G := h
      unfold Rn kindP at h
      rw [if_pos ⟨hn, e⟩] at h
      rw [h2, bcond_f, C_eq, R12_parser_text.cut0, rsg_nx, hw, rsg_set, rsg_T, rsg_nx, hw2, tok_ok hn, tok_at hn S.sz]
      exact h1 (peekT S.T S.sz nx) (nx + 1) none hz (fun _ => rfl) (hs.mv hn) h
  · have h2 : (kindV S nx b != kd) = true := by simp [e]
    rw [h2, bcond_t, cP, rfail_spec (by omega) hs]
    have key : UU (some (b.getD (peekT S.T S.sz nx).at_)) nx (F ⟨0, ⟨#[]⟩, 0, 0⟩ nx) G := by
      cases b with
      | some a => exact h
      | none =>
        have h : Rn (kindP kd) S nx F G := h
        unfold Rn kindP at h
        rw [if_neg (fun h => e h.2)] at h
        exact h
    exact h1 ⟨0, ⟨#[]⟩, 0, 0⟩ nx (some _) (Nat.zero_le _) (fun h => by cases h) hs key
theorem rnode_spec {K : Res → Out} (hk : 2 ≤ k) (hs : Fit S nx) (kd : Int) (t : ByteArray) (a : Int) (ks : List Tree) : callW (En n) k 67 [.ptr pre.length 0, .int .i64 kd, .str t, .int .i64 a, .list false (kidRows ks)] (rsg pre post S nx b) K =
    K ⟨false, nodeV (.mk kd t a (endT S.T nx) ks)⟩ (rsg pre post S nx b) := by
  rw [callW_at (by omega) rfl, R12_parser_node.eq, cI_of _ (fun K => rlast_spec (by omega) hs)]; rfl
theorem r_node {F : Tree → Nat → Prop} {kd a : Int} {t : ByteArray} {ks : List Tree} {r : List (List PV)} {Kc : Int → ByteArray → Int → Int → List (List PV) → Out} (hs : Fit S nx) (h : UU b nx (Rn (nodeP kd t a ks) S nx F G) G) (h1 : ∀ x, x = .mk kd t a (endT S.T nx) ks → UU b nx (F x nx) G → Kc x.kind x.text x.at_ x.end_ (kidRows x.kids) (rsg pre post S nx b)) (hr : r = kidRows ks := by first | rfl | (simp only [kidRows, nodeRow_eq]; done) | (simp only [kidRows, nodeRow_eq]; rfl)) (hk : 2 ≤ k := by omega) :
    cNd (callW (En n) k) 67 [.ptr pre.length 0, .int .i64 kd, .str t, .int .i64 a, .list false r] (rsg pre post S nx b) X Kc := by
  subst hr
  rw [cNd_of _ (fun K => rnode_spec hk hs kd t a ks)]; exact h1 _ rfl h
theorem rlist_spec {K : Res → Out} {sg : List (List PV)} (hk : 1 ≤ k) (e : Int) (ks : List Tree) (hl : ks.length ≤ 2000000) : callW (En n) k 90 [.list false (kidRows ks), .int .i64 e] sg K = K ⟨false, nodeV (listT e ks)⟩ sg := by
  rw [callW_at (by omega) rfl, R12_list.eq]
  cases ks with
  | nil => rfl
  | cons x r =>
    have hl' : r.length + 1 ≤ 2000000 := hl
    have hw : IntKind.i64.wrap (((x :: r).length : Int) - 1) = (r.length : Int) := by
      have e : ((x :: r).length : Int) = (r.length : Int) + 1 := rfl
      rw [wrap_id _ (by omega) (by omega)]; omega
    have e0 : rowAt (kidRows (x :: r)) 0 = nodeRow x := rfl
    have e1 : rowAt (kidRows (x :: r)) (r.length : Int) = nodeRow ((x :: r).getD r.length default) := by
      rw [kidRows_map, rowAt_map nodeRow _ _ default (by omega) (by show (r.length : Int) < ((r.length + 1 : Nat) : Int); omega)]; rfl
    have p1 : (0 : Int) < ((x :: r).length : Int) := by show (0 : Int) < ((r.length + 1 : Nat) : Int); omega
    have p2 : (0 : Int) ≤ (r.length : Int) := by omega
    have p3 : (r.length : Int) < ((x :: r).length : Int) := by show (r.length : Int) < ((r.length + 1 : Nat) : Int); omega
    have p4 : ((x :: r).length : Int) > 0 := p1
    rw [kidRows_ok, kidRows_len, hw, e0, e1]
    simp only [p1, p2, p3, p4, decide_true, Bool.and_self, chk_t, bcond_t, nodeRow_eq]
    rfl
theorem r_list {e : Int} {ks : List Tree} {r : List (List PV)} {sg : List (List PV)} {Kc : Int → ByteArray → Int → Int → List (List PV) → Out} (h1 : Kc (listT e ks).kind (listT e ks).text (listT e ks).at_ (listT e ks).end_ (kidRows (listT e ks).kids) sg) (hl : ks.length ≤ 2000000 := by first | assumption | exact Nat.zero_le _ | (show 1 ≤ 2000000; omega)) (hr : r = kidRows ks := by first | rfl | simp only [kidRows, nodeRow_eq]) (hk : 1 ≤ k := by omega) :
    cNd (callW (En n) k) 90 [.list false r, .int .i64 e] sg X Kc := by
  subst hr
  rw [cNd_of _ (fun K => rlist_spec hk e ks hl)]; exact h1
theorem r_nd {p : Ps Tree} [hp : Fw p] {F : Tree → Nat → Prop} {c : Caller} {f : Nat} {args : List PV} {Kc : Int → ByteArray → Int → Int → List (List PV) → Out}
    (hc : ∀ K : Res → Out, UU b nx (Rn p S nx (fun t m => K ⟨false, nodeV t⟩ (rsg pre post S m none)) (fun a m => m ≤ S.T.length → ∀ x, K ⟨false, nodeV x⟩ (rsg pre post S m (some a)))) (fun a m => m ≤ S.T.length → ∀ x, K ⟨false, nodeV x⟩ (rsg pre post S m (some a))) → c f args (rsg pre post S nx b) K)
    (hs : Fit S nx) (h : UU b nx (Rn p S nx F G) G) (h1 : ∀ x m b', (b' = none → nx ≤ m) → Fit S m → UU b' m (F x m) G → Kc x.kind x.text x.at_ x.end_ (kidRows x.kids) (rsg pre post S m b')) :
    cNd c f args (rsg pre post S nx b) X Kc := by
  rw [cNd]
  refine hc _ ?_
  cases b with
  | some a => exact fun hm x => h1 x nx (some a) (fun h => by cases h) (hs.mv hm) h
  | none =>
    have h : Rn p S nx F G := h
    refine Rn_mono (Rn_fw hs.le h) (fun x m hx => ?_) fun a m ha hm x => h1 x m (some a) (fun h => by cases h) (hs.mv hm) ha
    obtain ⟨_, hx2, hx3, hx4⟩ := hx
    exact h1 x m none (fun _ => hx2) (hs.mv hx3) hx4
/-- The same, with how far it goes. -/
theorem r_ndS {p : Ps Tree} [hp : Sp p] {F : Tree → Nat → Prop} {c : Caller} {f : Nat} {args : List PV} {Kc : Int → ByteArray → Int → Int → List (List PV) → Out}
    (hc : ∀ K : Res → Out, UU b nx (Rn p S nx (fun t m => K ⟨false, nodeV t⟩ (rsg pre post S m none)) (fun a m => m ≤ S.T.length → ∀ x, K ⟨false, nodeV x⟩ (rsg pre post S m (some a)))) (fun a m => m ≤ S.T.length → ∀ x, K ⟨false, nodeV x⟩ (rsg pre post S m (some a))) → c f args (rsg pre post S nx b) K)
    (hs : Fit S nx) (h : UU b nx (Rn p S nx F G) G) (h1 : ∀ x m b', (b' = none → b = none ∧ nx + 1 ≤ m) → Fit S m → UU b' m (F x m) G → Kc x.kind x.text x.at_ x.end_ (kidRows x.kids) (rsg pre post S m b')) :
    cNd c f args (rsg pre post S nx b) X Kc := by
  rw [cNd]
  refine hc _ ?_
  cases b with
  | some a => exact fun hm x => h1 x nx (some a) (fun h => nomatch h) (hs.mv hm) h
  | none =>
    have h : Rn p S nx F G := h
    refine Rn_mono (Rn_sp hs.le (Rn_fw (hp := Sp.fw') hs.le h)) (fun x m hx => ?_) fun a m ha hm x => h1 x m (some a) (fun h => nomatch h) (hs.mv hm) ha
    obtain ⟨hx1, _, hx2, hx3, hx4⟩ := hx
    exact h1 x m none (fun _ => ⟨rfl, hx1⟩) (hs.mv hx3) hx4
theorem r_end {K : Res → Out} {x : Tree} (hs : Fit S nx) (h : UU b nx (K ⟨false, nodeV x⟩ (rsg pre post S nx none)) (fun a m => m ≤ S.T.length → ∀ x, K ⟨false, nodeV x⟩ (rsg pre post S m (some a)))) : K ⟨false, nodeV x⟩ (rsg pre post S nx b) := by
  cases b with
  | some a => exact h hs.le x
  | none => exact h
end
end Go.Ev
set_option maxRecDepth 4000
namespace Go.Ev
open PV
abbrev GT (pre post : List (List PV)) (S : Src) (K : Res → Out) (a : Int) (m : Nat) : Prop := m ≤ S.T.length → ∀ x, K ⟨false, nodeV x⟩ (rsg pre post S m (some a))
abbrev UT (pre post : List (List PV)) (p : Ps Tree) (S : Src) (nx : Nat) (b : Option Int) (K : Res → Out) : Prop := UU b nx (Rn p S nx (fun t m => K ⟨false, nodeV t⟩ (rsg pre post S m none)) (GT pre post S K)) (GT pre post S K)
abbrev GL (pre post : List (List PV)) (S : Src) (K : Res → Out) (a : Int) (m : Nat) : Prop := m ≤ S.T.length → ∀ l : List Tree, l.length ≤ 2000000 → K ⟨false, .list false (kidRows l)⟩ (rsg pre post S m (some a))
abbrev UL (pre post : List (List PV)) (p : Ps (List Tree)) (S : Src) (nx : Nat) (b : Option Int) (K : Res → Out) : Prop := UU b nx (Rn p S nx (fun t m => K ⟨false, .list false (kidRows t)⟩ (rsg pre post S m none)) (GL pre post S K)) (GL pre post S K)
section
variable {pre post : List (List PV)} {S : Src} {n : Nat}
theorem r_endL {nx : Nat} {b : Option Int} {K : Res → Out} {l : List Tree} (hs : Fit S nx) (hl : l.length ≤ 2000000) (h : UU b nx (K ⟨false, .list false (kidRows l)⟩ (rsg pre post S nx none)) (GL pre post S K)) : K ⟨false, .list false (kidRows l)⟩ (rsg pre post S nx b) := by
  cases b with
  | some a => exact h hs.le l hl
  | none => exact h
theorem kind_none {nx : Nat} {tk : Int} (e : (peekT S.T S.sz nx).kind = tk) : kindV S nx none = tk := e
theorem rmeta_spec {nx k : Nat} {K : Res → Out} {tk kd : Int} (ht : tk = 7 ∧ kd = 26 ∨ tk = 6 ∧ kd = 25) (e : (peekT S.T S.sz nx).kind = tk) (hs : Fit S nx) (h : UT pre post (metaP tk kd) S nx none K) (hk : 4 ≤ k := by omega) : callW (En n) k 84 [.ptr pre.length 0, .bool false] (rsg pre post S nx none) K := by
  simp only [UT, metaP, Rn_bind, Rn_peek] at h
  rw [callW_at (by omega) rfl, R12_parser_meta.eq, cI_of _ (fun K => rfrom_spec (by omega) hs), C_eq, R12_parser_meta.cut0, cI_of _ (fun K => rkind_spec (by omega) hs), kind_none e]
  have key : ∀ b4 : Bool, C n (callW (En n) (k - 1)) 84 [1, 1, 1] (R12_parser_meta.S1 pre.length false (peekT S.T S.sz nx).at_ kd b4) (rsg pre post S nx none) (R12_parser_meta.K1 (callW (En n) (k - 1)) n K) := by
    intro b4
    rw [C_eq, R12_parser_meta.cut1, cI_of _ (fun K => rkind_spec (by omega) hs), kind_none e]
    refine r_text hs h (fun t m b _ _ hs h => ?_) (hd := by rcases ht with ⟨rfl, _⟩ | ⟨rfl, _⟩ <;> decide)
    rw [C_eq, R12_parser_meta.cut2, bcond_f, C_eq, R12_parser_meta.cut3]
    exact r_node hs h fun x _ h => r_end hs h
  rcases ht with ⟨rfl, rfl⟩ | ⟨rfl, rfl⟩
  · exact key _
  · exact key _
theorem rpart_spec {nx k : Nat} {K : Res → Out} {tk kd : Int} (ht : tk = 7 ∧ kd = 26 ∨ tk = 6 ∧ kd = 25) (e : (peekT S.T S.sz nx).kind = tk) (hs : Fit S nx) (h : UT pre post (partK tk kd) S nx none K) (hk : 5 ≤ k := by omega) : callW (En n) k 84 [.ptr pre.length 0, .bool true] (rsg pre post S nx none) K := by
  simp only [UT, partK, Rn_bind, Rn_peek] at h
  rw [callW_at (by omega) rfl, R12_parser_meta.eq, cI_of _ (fun K => rfrom_spec (by omega) hs), C_eq, R12_parser_meta.cut0, cI_of _ (fun K => rkind_spec (by omega) hs), kind_none e]
  have key : ∀ b4 : Bool, C n (callW (En n) (k - 1)) 84 [1, 1, 1] (R12_parser_meta.S1 pre.length true (peekT S.T S.sz nx).at_ kd b4) (rsg pre post S nx none) (R12_parser_meta.K1 (callW (En n) (k - 1)) n K) := by
    intro b4
    rw [C_eq, R12_parser_meta.cut1, cI_of _ (fun K => rkind_spec (by omega) hs), kind_none e]
    refine r_text hs h (fun t m b _ _ hs h => ?_) (hd := by rcases ht with ⟨rfl, _⟩ | ⟨rfl, _⟩ <;> decide)
    rw [C_eq, R12_parser_meta.cut2, bcond_t]
    refine r_want hs h fun m b hs h => ?_
    rw [C_eq, R12_parser_meta.cut3]
    exact r_node hs h fun x _ h => r_end hs h
  rcases ht with ⟨rfl, rfl⟩ | ⟨rfl, rfl⟩
  · exact key _
  · exact key _
theorem r_name {F : ByteArray → Nat → Prop} {G : Int → Nat → Prop} {nx k : Nat} {b : Option Int} {X : PV → Out} {Kc : ByteArray → Out} (hs : Fit S nx) (h : UU b nx (Rn nameS S nx F G) G) (h1 : ∀ s m b', Fit S m → UU b' m (F s m) G → Kc s (rsg pre post S m b')) (hk : 4 ≤ k := by omega) :
    cS (callW (En n) k) 160 [.ptr pre.length 0] (rsg pre post S nx b) X Kc := by
  simp only [nameS, Rn_bind] at h
  rw [cS, callW_at (by omega) rfl, R12_parser_name.eq]
  refine r_text hs h fun t m b hz _ hs h => ?_
  rw [C_eq, R12_parser_name.cut0]
  have e1 : (⟨#[46]⟩ : ByteArray).size = 1 := rfl
  refine r_skip hs h (fun _ hs h => ?_) fun _ h => ?_
  · have z1 : sumOk t.text ⟨#[46]⟩ = true := by rw [sumOk_eq]; simp only [e1, show IntKind.i64.max = 9223372036854775807 from rfl]; exact decide_eq_true (by omega)
    rw [z1, chk_t]
    simp only [Rn_bind, Rn_pure] at h
    refine r_text hs h fun u m b hu _ hs h => ?_
    have z2 : sumOk (cat t.text ⟨#[46]⟩) u.text = true := by
      rw [cat_eq, sumOk_eq]; simp only [ByteArray.size_append, e1, show IntKind.i64.max = 9223372036854775807 from rfl]; exact decide_eq_true (by omega)
    rw [z2, chk_t, cat_eq, cat_eq, ByteArray.append_assoc]
    exact h1 _ _ _ hs h
  · simp only [Rn_pure] at h
    exact h1 _ _ _ hs h
theorem rtyp_spec {nx k : Nat} {b : Option Int} {K : Res → Out} (hs : Fit S nx) (h : UT pre post typP S nx b K) (hk : 5 ≤ k := by omega) : callW (En n) k 123 [.ptr pre.length 0] (rsg pre post S nx b) K := by
  simp only [UT, typP, Rn_bind, Rn_peek] at h
  rw [callW_at (by omega) rfl, R12_parser_typ.eq, cI_of _ (fun K => rkind_spec (by omega) hs)]
  refine r_kindC h (fun hb e h' => ?_) fun _ h => ?_
  · subst hb
    exact r_nd (fun K h => rmeta_spec (.inr ⟨rfl, rfl⟩) e hs h) hs h' fun x m b _ hs h => r_end hs h
  · simp only [nameP, Rn_bind, Rn_peek] at h
    rw [C_eq, R12_parser_typ.cut0, cI_of _ (fun K => rfrom_spec (by omega) hs), C_eq, R12_parser_typ.cut1]
    refine r_name hs h fun s m b hs h => ?_
    rw [C_eq, R12_parser_typ.cut2]
    exact r_node hs h fun x _ h => r_end hs h
theorem rparam_spec {nx k : Nat} {b : Option Int} {K : Res → Out} (hs : Fit S nx) (h : UT pre post (manyOr paramP) S nx b K) (hk : 6 ≤ k := by omega) : callW (En n) k 126 [.ptr pre.length 0] (rsg pre post S nx b) K := by
  simp only [UT, manyOr, Rn_bind, Rn_peek] at h
  rw [callW_at (by omega) rfl, R12_parser_param.eq, cI_of _ (fun K => rkind_spec (by omega) hs)]
  refine r_kindC h (fun hb e h' => ?_) fun _ h => ?_
  · subst hb
    exact r_nd (fun K h => rmeta_spec (.inl ⟨rfl, rfl⟩) e hs h) hs h' fun x m b _ hs h => r_end hs h
  · simp only [paramP, Rn_bind, Rn_peek] at h
    rw [C_eq, R12_parser_param.cut0, cI_of _ (fun K => rfrom_spec (by omega) hs), C_eq, R12_parser_param.cut1]
    refine r_text hs h fun t m b _ _ hs h => ?_
    rw [C_eq, R12_parser_param.cut2]
    refine r_want hs h fun m b hs h => ?_
    rw [C_eq, R12_parser_param.cut3]
    refine r_nd (fun K h => rtyp_spec hs h) hs h fun y m b _ hs h => ?_
    rw [C_eq, R12_parser_param.cut4]
    exact r_node hs h fun x _ h => r_end hs h
/-- A list that is read has fuel, or there is an error already. -/
theorem r_fuel {one : Ps Tree} {g m nx : Nat} {b : Option Int} {acc : List Tree} {F : List Tree → Nat → Prop} {G : Int → Nat → Prop} (hm : 1 ≤ m) (hg : b = none → g ≤ m) (h : UU b nx (Rn (rowP one g acc) S nx F G) G) : ∃ j, (b = none → j + 1 ≤ m) ∧ UU b nx (Rn (rowP one (j + 1) acc) S nx F G) G := by
  cases b with
  | some a => exact ⟨0, (fun h => nomatch h), h⟩
  | none => cases g with
    | zero => exact h.elim
    | succ j => exact ⟨j, fun _ => hg rfl, h⟩
theorem rtypes_loop {k : Nat} {K : Res → Out} (hk : 5 ≤ k) : ∀ (m g nx : Nat) (b : Option Int) (acc : List Tree) (p2 p3 : PV), 1 ≤ m → (b = none → g ≤ m) → acc.length ≤ nx → Fit S nx → UL pre post (rowP typP g acc) S nx b K →
    L n (callW (En n) k) 124 [1, 1, 0, 0] (R12_parser_types.S0 pre.length (kidRows acc) p2 p3) (rsg pre post S nx b) (R12_parser_types.K0 (callW (En n) k) n K) m
  | 0, g, nx, b, acc, p2, p3, hm, _, _, _, _ => by omega
  | m + 1, g, nx, b, acc, p2, p3, hm, hg, hl, hs, h => by
    have hl' : acc.length ≤ 1000000 := by have := hs.le; have := hs.len; omega
    obtain ⟨j, hj, h⟩ := r_fuel hm hg h
    simp only [rowP, manyOr, Rn_bind, Rn_peek] at h
    rw [L_succ, R12_parser_types.loop0, cI_of _ (fun K => rkind_spec (by omega) hs)]
    have tail : ∀ (x : Tree) (m2 : Nat) (b' : Option Int) (b2 : Bool), (b' = none → b = none ∧ nx + 1 ≤ m2) → Fit S m2 → UU b' m2 (Rn (takeC ⟨#[44]⟩ (rowP typP j (acc ++ [x])) (pure (acc ++ [x]))) S m2 (fun t m => K ⟨false, .list false (kidRows t)⟩ (rsg pre post S m none)) (GL pre post S K)) (GL pre post S K) →
        C n (callW (En n) k) 124 [1, 1, 0, 0, 0, 1] (R12_parser_types.S1 pre.length (kidRows (acc ++ [x])) b2 p3) (rsg pre post S m2 b') (R12_parser_types.K1 (callW (En n) k) n m K) := by
      intro x m2 b' b2 hb hs2 h
      rw [C_eq, R12_parser_types.cut1]
      refine r_skipN hs2 h (fun hb' hs h => ?_) fun h => ?_
      · obtain ⟨hb, hx⟩ := hb hb'
        have := hj hb
        cases j with
        | zero => exact h.elim
        | succ j => exact rtypes_loop hk m (j + 1) _ _ _ _ _ (by omega) (fun _ => by omega) (by simp; omega) hs h
      · simp only [Rn_pure] at h
        exact r_endL hs2 (by simp; omega) h
    refine r_kindC h (fun hb e h' => ?_) fun _ h => ?_
    · subst hb
      refine r_ndS (p := metaP 7 26) (fun K h => rmeta_spec (.inl ⟨rfl, rfl⟩) e hs h) hs h' fun x m2 b' hb hs2 h => ?_
      rw [app_ok acc hl', kidRows_snoc]
      exact tail x m2 b' _ hb hs2 h
    · refine r_ndS (p := typP) (fun K h => rtyp_spec hs h) hs h fun x m2 b' hb hs2 h => ?_
      rw [app_ok acc hl', kidRows_snoc]
      exact tail x m2 b' _ hb hs2 h
theorem r_types {F : List Tree → Nat → Prop} {G : Int → Nat → Prop} {g nx k : Nat} {b : Option Int} {X : PV → Out} {Kc : PV → Out} (hs : Fit S nx) (h : UU b nx (Rn (rowP typP g []) S nx F G) G) (h1 : ∀ l m b', l.length ≤ 2000000 → Fit S m → UU b' m (F l m) G → Kc (.list false (kidRows l)) (rsg pre post S m b')) (hn : 1 ≤ n := by omega) (hg : g ≤ n := by omega) (hk : 6 ≤ k := by omega) :
    cP (callW (En n) k) 124 [.ptr pre.length 0] (rsg pre post S nx b) X Kc := by
  rw [cP, callW_at (by omega) rfl, R12_parser_types.eq]
  refine rtypes_loop (by omega) n g nx b [] _ _ hn (fun _ => hg) (Nat.zero_le _) hs ?_
  cases b with
  | some a => exact fun hm l hl => h1 l nx (some a) hl (hs.mv hm) h
  | none =>
    have h : Rn (rowP typP g []) S nx F G := h
    refine Rn_mono (Rn_fw hs.le h) (fun l m hl => ?_) fun a m ha hm l hl => h1 l m (some a) hl (hs.mv hm) ha
    obtain ⟨e, _, h3, h4⟩ := hl
    exact h1 l m none (by have := row_len hs.le (Nat.zero_le _) e; have := hs.len; omega) (hs.mv h3) h4
end
end Go.Ev
set_option maxRecDepth 4000
set_option linter.unusedSectionVars false
namespace Go.Ev
open PV
section
variable {pre post : List (List PV)} {S : Src} {n : Nat}
theorem Rn_take_t {α : Type} {t : ByteArray} {p q : Ps α} {nx : Nat} {F : α → Nat → Prop} {G : Int → Nat → Prop} (e : isT S.T nx t = true) : Rn (takeC t p q) S nx F G = Rn p S (nx + 1) F G := by unfold Rn takeC; rw [if_pos e]
theorem Rn_take_f {α : Type} {t : ByteArray} {p q : Ps α} {nx : Nat} {F : α → Nat → Prop} {G : Int → Nat → Prop} (e : isT S.T nx t = false) : Rn (takeC t p q) S nx F G = Rn q S nx F G := by unfold Rn takeC; rw [if_neg (by rw [e]; decide)]
theorem Rn_is_t {α : Type} {t : ByteArray} {p q : Ps α} {nx : Nat} {F : α → Nat → Prop} {G : Int → Nat → Prop} (e : isT S.T nx t = true) : Rn (isC t p q) S nx F G = Rn p S nx F G := by unfold Rn isC; rw [if_pos e]
theorem Rn_is_f {α : Type} {t : ByteArray} {p q : Ps α} {nx : Nat} {F : α → Nat → Prop} {G : Int → Nat → Prop} (e : isT S.T nx t = false) : Rn (isC t p q) S nx F G = Rn q S nx F G := by unfold Rn isC; rw [if_neg (by rw [e]; decide)]
theorem Rn_need_t {t : ByteArray} {nx : Nat} {F : Unit → Nat → Prop} {G : Int → Nat → Prop} (e : isT S.T nx t = true) : Rn (needP t) S nx F G = F () (nx + 1) := by unfold Rn needP; rw [if_pos e]
theorem Rn_need_f {t : ByteArray} {nx : Nat} {F : Unit → Nat → Prop} {G : Int → Nat → Prop} (e : isT S.T nx t = false) : Rn (needP t) S nx F G = G (peekT S.T S.sz nx).at_ nx := by unfold Rn needP; rw [if_neg (by rw [e]; decide)]
theorem Rn_kind_t {kd : Int} {nx : Nat} {F : Tok → Nat → Prop} {G : Int → Nat → Prop} (hn : nx < S.T.length) (e : (peekT S.T S.sz nx).kind = kd) : Rn (kindP kd) S nx F G = F (peekT S.T S.sz nx) (nx + 1) := by unfold Rn kindP; rw [if_pos ⟨hn, e⟩]
theorem Rn_take_fail {α : Type} {t : ByteArray} {p : Ps α} {nx : Nat} {F : α → Nat → Prop} {G : Int → Nat → Prop} : Rn (takeC t p failP) S nx F G = Rn (needP t) S nx (fun _ m => Rn p S m F G) G := by
  cases e : isT S.T nx t with
  | true => rw [Rn_take_t e, Rn_need_t e]
  | false => rw [Rn_take_f e, Rn_need_f e]; rfl
/-- No token is two marks. -/
theorem isT_excl {T : List Tok} {nx : Nat} {t u : ByteArray} (h : isT T nx t = true) (hd : t.data.toList ≠ u.data.toList) : isT T nx u = false := by
  unfold isT at *
  rw [Bool.and_eq_true] at h
  have h2 : (peekT T 0 nx).text.toList = t.toList := by simpa using h.2
  have : ((peekT T 0 nx).text.toList == u.toList) = false := by
    rw [h2, Lib.toList_data, Lib.toList_data]; simpa using hd
  rw [this, Bool.and_false]
theorem text_eq {nx : Nat} {t : ByteArray} (h : (peekT S.T S.sz nx).text.toList = t.toList) : (peekT S.T S.sz nx).text = t := by
  rw [Lib.toList_data, Lib.toList_data] at h
  have : (peekT S.T S.sz nx).text.data = t.data := by
    apply Array.ext'; exact h
  cases h1 : (peekT S.T S.sz nx).text
  cases t
  rw [h1] at this
  exact congrArg ByteArray.mk this
/- Once there is an error nothing is read. -/
theorem jprimary {nx k : Nat} {a : Int} {K : Res → Out} (hs : Fit S nx) (h : GT pre post S K a nx) (hk : 5 ≤ k := by omega) : callW (En n) k 121 [.ptr pre.length 0] (rsg pre post S nx (some a)) K := by
  rw [callW_at (by omega) rfl, R12_parser_primary.eq, cI_of _ (fun K => rfrom_spec (by omega) hs), C_eq, R12_parser_primary.cut0, cI_of _ (fun K => rkind_spec (by omega) hs), C_eq, R12_parser_primary.cut1]
  show C n _ 121 _ _ _ _
  rw [C_eq, R12_parser_primary.cut4]
  refine r_want (F := fun _ _ => False) (G := fun a m => GT pre post S K a m) hs h fun m b hs h => ?_
  rw [C_eq, R12_parser_primary.cut6, rsg_bad]
  cases b with
  | some a => exact h hs.le (.mk 0 ⟨#[]⟩ 0 0 [])
  | none => exact h.elim
theorem junary {nx k : Nat} {a : Int} {K : Res → Out} (hn : 1 ≤ n) (hs : Fit S nx) (h : GT pre post S K a nx) (hk : 6 ≤ k := by omega) : callW (En n) k 81 [.ptr pre.length 0] (rsg pre post S nx (some a)) K := by
  rw [callW_at (by omega) rfl, R12_parser_unary.eq, cI_of _ (fun K => rfrom_spec (by omega) hs), C_eq, R12_parser_unary.cut0]
  refine r_ask hs (fun h => nomatch h) fun _ => ?_
  rw [bcond_f]
  refine r_ask hs (fun h => nomatch h) fun _ => ?_
  rw [bcond_f, C_eq, R12_parser_unary.cut2]
  refine r_nd (p := outP) (F := fun _ _ => False) (G := fun a m => GT pre post S K a m) (fun K h => jprimary hs h) hs h fun x m b _ hs h => ?_
  rw [C_eq, R12_parser_unary.cut4]
  obtain ⟨j, rfl⟩ : ∃ j, n = j + 1 := ⟨n - 1, by omega⟩
  rw [L_succ, R12_parser_unary.loop5, rsg_bad]
  cases b with
  | some a => exact h hs.le x
  | none => exact h.elim
theorem rops (sg : List (List PV)) (K : Res → Out) {k : Nat} (hk : 1 ≤ k) : ∀ lv : Nat, lv < 6 → callW (En n) k 82 [.int .i64 lv] sg K = K ⟨false, .list true (strRows (levels.getD lv []))⟩ sg
  | 0, _ => by rw [callW_at (by omega) rfl, R12_operators.eq]; rfl
  | 1, _ => by rw [callW_at (by omega) rfl, R12_operators.eq]; rfl
  | 2, _ => by rw [callW_at (by omega) rfl, R12_operators.eq]; rfl
  | 3, _ => by rw [callW_at (by omega) rfl, R12_operators.eq]; rfl
  | 4, _ => by rw [callW_at (by omega) rfl, R12_operators.eq]; rfl
  | 5, _ => by rw [callW_at (by omega) rfl, R12_operators.eq]; rfl
  | lv + 6, h => by omega
theorem jexpr {nx : Nat} {a : Int} (hn : 1 ≤ n) (hs : Fit S nx) : ∀ (j lv k : Nat) (K : Res → Out), lv + j = 6 → 7 + j ≤ k → GT pre post S K a nx → callW (En n) k 43 [.ptr pre.length 0, .int .i64 lv] (rsg pre post S nx (some a)) K
  | 0, lv, k, K, hl, hk, h => by
    have : lv = 6 := by omega
    subst this
    rw [callW_at (by omega) rfl, R12_parser_expr.eq]
    show bcond true _ _
    rw [bcond_t]
    refine r_nd (p := outP) (F := fun _ _ => False) (G := fun a m => GT pre post S K a m) (fun K h => junary hn hs h) hs h fun x m b _ hs h => ?_
    cases b with
    | some a => exact h hs.le x
    | none => exact h.elim
  | j + 1, lv, k, K, hl, hk, h => by
    have e : ((lv : Int) == 6) = false := by simp; omega
    have hw : IntKind.i64.wrap ((lv : Int) + 1) = ((lv + 1 : Nat) : Int) := wrap_id _ (by omega) (by omega)
    rw [callW_at (by omega) rfl, R12_parser_expr.eq, e, bcond_f, C_eq, R12_parser_expr.cut0, hw]
    refine r_nd (p := outP) (F := fun _ _ => False) (G := fun a m => GT pre post S K a m) (fun K h => jexpr hn hs j (lv + 1) _ K (by omega) (by omega) h) hs h fun x m b _ hs h => ?_
    rw [C_eq, R12_parser_expr.cut1, cP, rops _ _ (by omega) lv (by omega)]
    show C n _ 43 _ _ _ _
    rw [C_eq, R12_parser_expr.cut2]
    obtain ⟨j, rfl⟩ : ∃ j, n = j + 1 := ⟨n - 1, by omega⟩
    rw [L_succ, R12_parser_expr.loop3, rsg_bad]
    cases b with
    | some a => exact h hs.le x
    | none => exact h.elim
/-- What an expression's reader does while there is no error. -/
def SpR (pre post : List (List PV)) (n : Nat) (S : Src) (d : Nat) (p : Ps Tree) : Prop := ∀ k nx (K : Res → Out), d ≤ k → Fit S nx → UT pre post p S nx none K → callW (En n) k 43 [.ptr pre.length 0, .int .i64 0] (rsg pre post S nx none) K
theorem SpR.any {d nx k : Nat} {p : Ps Tree} {b : Option Int} {K : Res → Out} (h : SpR pre post n S d p) (hn : 1 ≤ n) (hs : Fit S nx) (hu : UT pre post p S nx b K) (hk : 13 ≤ k) (hd : d ≤ k) : callW (En n) k 43 [.ptr pre.length 0, .int .i64 0] (rsg pre post S nx b) K := by
  cases b with
  | none => exact h k nx K hd hs hu
  | some a => exact jexpr hn hs 6 0 k K rfl hk hu
end
section
variable {pre post : List (List PV)} {S : Src} {n g d : Nat} {E : Ps Tree} [hE : Sp E]
local instance : Fw E := Sp.fw'
/-- What is left of the arguments at the loop's head. -/
def leftP (E : Ps Tree) (j : Nat) : List Tree → Ps (List Tree)
  | [] => isC ⟨#[41]⟩ (pure []) (rowP E j [])
  | x :: r => takeC ⟨#[44]⟩ (rowP E j (x :: r)) (pure (x :: r))
theorem left_close {j nx : Nat} {acc : List Tree} {F : List Tree → Nat → Prop} {G : Int → Nat → Prop} (e : isT S.T nx ⟨#[41]⟩ = true) : Rn (leftP E j acc) S nx F G = F acc nx := by
  cases acc with
  | nil => show Rn (isC ⟨#[41]⟩ (pure []) (rowP E j [])) S nx F G = _; rw [Rn_is_t e]; rfl
  | cons x r => show Rn (takeC ⟨#[44]⟩ (rowP E j (x :: r)) (pure (x :: r))) S nx F G = _; rw [Rn_take_f (isT_excl e (by decide))]; rfl
theorem left_open {j nx : Nat} {F : List Tree → Nat → Prop} {G : Int → Nat → Prop} (e : isT S.T nx ⟨#[41]⟩ = false) : Rn (leftP E j []) S nx F G = Rn (rowP E j []) S nx F G := Rn_is_f e
theorem left_more {j nx : Nat} {x : Tree} {r : List Tree} {F : List Tree → Nat → Prop} {G : Int → Nat → Prop} {F2 : List Tree → Unit → Nat → Prop} (e : isT S.T nx ⟨#[41]⟩ = false) (hF : ∀ l m, F l m = Rn (needP ⟨#[41]⟩) S m (F2 l) G) :
    Rn (leftP E j (x :: r)) S nx F G = Rn (needP ⟨#[44]⟩) S nx (fun _ m => Rn (rowP E j (x :: r)) S m F G) G := by
  show Rn (takeC ⟨#[44]⟩ (rowP E j (x :: r)) (pure (x :: r))) S nx F G = _
  cases e2 : isT S.T nx ⟨#[44]⟩ with
  | true => rw [Rn_take_t e2, Rn_need_t e2]
  | false => rw [Rn_take_f e2, Rn_need_f e2, Rn_pure, hF, Rn_need_f e]
theorem left_snoc (j : Nat) (acc : List Tree) (x : Tree) : leftP E j (acc ++ [x]) = takeC ⟨#[44]⟩ (rowP E j (acc ++ [x])) (pure (acc ++ [x])) := by
  cases acc <;> rfl
theorem r_fuel2 {one : Ps Tree} {g m nx : Nat} {b : Option Int} {acc : List Tree} {F : List Tree → Nat → Prop} {G : Int → Nat → Prop} (h : UU b nx (Rn (rowP one g acc) S nx F G) G) : ∃ j, (b = none → j + 1 = g) ∧ UU b nx (Rn (rowP one (j + 1) acc) S nx F G) G := by
  cases b with
  | some a => exact ⟨0, (fun h => nomatch h), h⟩
  | none => cases g with
    | zero => exact h.elim
    | succ j => exact ⟨j, fun _ => rfl, h⟩
theorem rargs_loop {k : Nat} {K : Res → Out} {F : List Tree → Nat → Prop} {G : Int → Nat → Prop} (hE : SpR pre post n S d E) (hn : 1 ≤ n) (hk : 13 ≤ k) (hd : d ≤ k)
    (h1 : ∀ l m b', l.length ≤ 2000000 → Fit S m → UU b' m (F l m) G → K ⟨false, .list false (kidRows l)⟩ (rsg pre post S m b')) :
    ∀ (m j nx : Nat) (b : Option Int) (acc : List Tree) (p2 p3 p4 : PV), 1 ≤ m → (b = none → j + 2 ≤ m ∧ acc.length ≤ nx) → acc.length ≤ 2000000 → Fit S nx → UU b nx (Rn (leftP E j acc) S nx (fun l m => Rn (needP ⟨#[41]⟩) S m (fun _ m => F l m) G) G) G →
    L n (callW (En n) k) 122 [1, 1, 0, 0, 0] (R12_parser_args.S0 pre.length (kidRows acc) p2 p3 p4) (rsg pre post S nx b) (R12_parser_args.K0 (callW (En n) k) n K) m
  | 0, j, nx, b, acc, _, _, _, hm, _, _, _, _ => by omega
  | m + 1, j, nx, b, acc, p2, p3, p4, hm, hb, hl, hs, h => by
    rw [L_succ, R12_parser_args.loop0, rsg_bad]
    cases b with
    | some a =>
      show bcond false _ _
      rw [bcond_f]
      exact r_want (F := fun _ m => F acc m) hs h fun m b' hs h => h1 acc m b' hl hs h
    | none =>
      show bcond true _ _
      rw [bcond_t]
      have h : Rn (leftP E j acc) S nx (fun l m => Rn (needP ⟨#[41]⟩) S m (fun _ m => F l m) G) G := h
      obtain ⟨hj, hl2⟩ := hb rfl
      have hl' : acc.length ≤ 1000000 := by have := hs.le; have := hs.len; omega
      refine r_ask hs (fun _ e _ _ => ?_) fun e => ?_
      · show bcond false _ _
        rw [bcond_f]
        rw [left_close e] at h
        exact r_want (b := none) hs h fun m b' hs h => h1 acc m b' hl hs h
      · have e := e rfl
        show bcond true _ _
        rw [bcond_t, C_eq, R12_parser_args.cut1]
        have tail : ∀ (m2 : Nat) (b' : Option Int) (b2 b3 : Bool), Fit S m2 → (b' = none → acc.length ≤ m2) → UU b' m2 (Rn (rowP E j acc) S m2 (fun l m => Rn (needP ⟨#[41]⟩) S m (fun _ m => F l m) G) G) G →
            C n (callW (En n) k) 122 [1, 1, 0, 0, 0, 1, 0, 1] (R12_parser_args.S2 pre.length (kidRows acc) b2 b3 p4) (rsg pre post S m2 b') (R12_parser_args.K2 (callW (En n) k) n m K) := by
          intro m2 b' b2 b3 hs2 hlm h
          obtain ⟨j', hj', h⟩ := r_fuel2 (m := 0) h
          simp only [rowP, manyOr, Rn_bind, Rn_peek] at h
          rw [C_eq, R12_parser_args.cut2, cI_of _ (fun K => rkind_spec (by omega) hs2)]
          refine r_kindC h (fun hb e h' => ?_) fun _ h => ?_
          · subst hb
            refine r_ndS (p := metaP 7 26) (fun K h => rmeta_spec (.inl ⟨rfl, rfl⟩) e hs2 h) hs2 h' fun x m3 b' hb hs3 h => ?_
            rw [app_ok acc hl', kidRows_snoc]
            exact rargs_loop hE hn hk hd h1 m j' _ _ _ _ _ _ (by omega) (fun h => ⟨by have := hj' rfl; omega, by have := (hb h).2; have := hlm rfl; simp; omega⟩) (by simp; omega) hs3 (by rw [left_snoc]; exact h)
          · refine r_ndS (p := E) (fun K h => hE.any hn hs2 h (by omega) (by omega)) hs2 h fun x m3 b3 hb hs3 h => ?_
            rw [app_ok acc hl', kidRows_snoc]
            exact rargs_loop hE hn hk hd h1 m j' _ _ _ _ _ _ (by omega) (fun h => ⟨by have := hj' (hb h).1; omega, by have := (hb h).2; have := hlm (hb h).1; simp; omega⟩) (by simp; omega) hs3 (by rw [left_snoc]; exact h)
        cases acc with
        | nil =>
          show bcond false _ _
          rw [bcond_f]
          rw [left_open e] at h
          exact tail nx none _ _ hs (fun _ => Nat.zero_le _) h
        | cons x r =>
          have ed : decide (((kidRows (x :: r)).length : Int) > 0) = true := by rw [kidRows_len]; exact decide_eq_true (by show (0 : Int) < ((r.length + 1 : Nat) : Int); omega)
          rw [ed, bcond_t]
          rw [left_more e (F2 := fun l _ m => F l m) (fun l m => rfl)] at h
          have hw : UU none nx (Rn (needP ⟨#[44]⟩) S nx (fun _ m => (x :: r).length ≤ m ∧ Rn (rowP E j (x :: r)) S m (fun l m => Rn (needP ⟨#[41]⟩) S m (fun _ m => F l m) G) G) G) G := by
            refine Rn_mono (Rn_fw hs.le h) (fun u m hu => ?_) fun _ _ h => h
            exact ⟨by have := hu.2.1; omega, hu.2.2.2⟩
          refine r_want hs hw fun m2 b' hs2 h => ?_
          cases b' with
          | some a => exact tail m2 (some a) _ _ hs2 (fun h => nomatch h) h
          | none => exact tail m2 none _ _ hs2 (fun _ => h.1) h.2
theorem r_args {F : List Tree → Nat → Prop} {G : Int → Nat → Prop} {nx k : Nat} {b : Option Int} {X : PV → Out} {Kc : PV → Out} (hE : SpR pre post n S d E) (hs : Fit S nx) (h : UU b nx (Rn (parensP E g) S nx (fun l m => Rn (needP ⟨#[41]⟩) S m (fun _ m => F l m) G) G) G) (h1 : ∀ l m b', l.length ≤ 2000000 → Fit S m → UU b' m (F l m) G → Kc (.list false (kidRows l)) (rsg pre post S m b')) (hg : g + 2 ≤ n) (hk : 14 ≤ k) (hd : d + 1 ≤ k) :
    cP (callW (En n) k) 122 [.ptr pre.length 0] (rsg pre post S nx b) X Kc := by
  rw [cP, callW_at (by omega) rfl, R12_parser_args.eq]
  exact rargs_loop hE (by omega) (by omega) (by omega) (fun l m b' hl hs h => h1 l m b' hl hs h) n g nx b [] _ _ _ (by omega) (fun _ => ⟨hg, Nat.zero_le _⟩) (Nat.zero_le _) hs h
/- The keywords and parentheses behind which an operand may stand. -/
def isConst (t : ByteArray) : Bool := t.toList == (⟨#[116, 114, 117, 101]⟩ : ByteArray).toList || (t.toList == (⟨#[102, 97, 108, 115, 101]⟩ : ByteArray).toList || (t.toList == (⟨#[110, 117, 108, 108]⟩ : ByteArray).toList || t.toList == (⟨#[116, 104, 105, 115]⟩ : ByteArray).toList))
theorem rconst (sg : List (List PV)) (K : Res → Out) {k : Nat} (hk : 1 ≤ k) (t : ByteArray) : callW (En n) k 161 [.str t] sg K = K ⟨false, .bool (isConst t)⟩ sg := by
  rw [callW_at (by omega) rfl, R12_constant.eq]
  unfold isConst
  cases (t.toList == (⟨#[116, 114, 117, 101]⟩ : ByteArray).toList) <;> cases (t.toList == (⟨#[102, 97, 108, 115, 101]⟩ : ByteArray).toList) <;> cases (t.toList == (⟨#[110, 117, 108, 108]⟩ : ByteArray).toList) <;> rfl
theorem isT_kind {nx : Nat} {t : ByteArray} {kd : Int} (hs : Fit S nx) (hd : fitK kd t) : isT S.T nx t = ((peekT S.T S.sz nx).kind == kd && (peekT S.T S.sz nx).text.toList == t.toList) := (is_isT hs hd).symm
theorem rest_new {nx : Nat} {t : Tok} {F : Tree → Nat → Prop} {G : Int → Nat → Prop} (e : isT S.T nx ⟨#[110, 101, 119]⟩ = true) : Rn (restP g E t) S nx F G = Rn (newP g E t) S (nx + 1) F G := by
  unfold restP
  rw [Rn_take_f (isT_excl e (by decide)), Rn_take_f (isT_excl e (by decide)), Rn_take_f (isT_excl e (by decide)), Rn_take_f (isT_excl e (by decide)), Rn_take_t e]
theorem rest_const {nx : Nat} {t : Tok} {F : Tree → Nat → Prop} {G : Int → Nat → Prop} (e : isT S.T nx ⟨#[116, 114, 117, 101]⟩ = true ∨ isT S.T nx ⟨#[102, 97, 108, 115, 101]⟩ = true ∨ isT S.T nx ⟨#[110, 117, 108, 108]⟩ = true ∨ isT S.T nx ⟨#[116, 104, 105, 115]⟩ = true) : Rn (restP g E t) S nx F G = Rn (nodeP 18 t.text t.at_ []) S (nx + 1) F G := by
  unfold restP
  rcases e with e | e | e | e
  · rw [Rn_take_t e]
  · rw [Rn_take_f (isT_excl e (by decide)), Rn_take_t e]
  · rw [Rn_take_f (isT_excl e (by decide)), Rn_take_f (isT_excl e (by decide)), Rn_take_t e]
  · rw [Rn_take_f (isT_excl e (by decide)), Rn_take_f (isT_excl e (by decide)), Rn_take_f (isT_excl e (by decide)), Rn_take_t e]
theorem rest_open {nx : Nat} {t : Tok} {F : Tree → Nat → Prop} {G : Int → Nat → Prop} (h1 : isT S.T nx ⟨#[116, 114, 117, 101]⟩ = false) (h2 : isT S.T nx ⟨#[102, 97, 108, 115, 101]⟩ = false) (h3 : isT S.T nx ⟨#[110, 117, 108, 108]⟩ = false) (h4 : isT S.T nx ⟨#[116, 104, 105, 115]⟩ = false) (h5 : isT S.T nx ⟨#[110, 101, 119]⟩ = false) :
    Rn (restP g E t) S nx F G = Rn (needP ⟨#[40]⟩) S nx (fun _ m => Rn (innerP E t) S m F G) G := by
  unfold restP
  rw [Rn_take_f h1, Rn_take_f h2, Rn_take_f h3, Rn_take_f h4, Rn_take_f h5, Rn_take_fail]
theorem rprimary_spec {nx k : Nat} {K : Res → Out} (hE : SpR pre post n S d E) (hg : g + 2 ≤ n) (hs : Fit S nx) (h : UT pre post (primaryP g E) S nx none K) (hk : 20 ≤ k) (hd : d + 4 ≤ k) : callW (En n) k 121 [.ptr pre.length 0] (rsg pre post S nx none) K := by
  simp only [UT, primaryP, Rn_bind, Rn_peek] at h
  rw [callW_at (by omega) rfl, R12_parser_primary.eq, cI_of _ (fun K => rfrom_spec (by omega) hs), C_eq, R12_parser_primary.cut0, cI_of _ (fun K => rkind_spec (by omega) hs), C_eq, R12_parser_primary.cut1]
  have paren : ∀ (i2 : Int) (b3 b4 b5 b6 b7 : Bool) (p8 p9 : PV), isBaddr 6 p8 = false → isBaddr 6 p9 = false → Rn (needP ⟨#[40]⟩) S nx (fun _ m => Rn (innerP E (peekT S.T S.sz nx)) S m (fun t m => K ⟨false, nodeV t⟩ (rsg pre post S m none)) (GT pre post S K)) (GT pre post S K) →
      C n (callW (En n) (k - 1)) 121 [1, 1, 1] (R12_parser_primary.S4 pre.length (peekT S.T S.sz nx).at_ i2 b3 b4 b5 b6 b7 p8 p9) (rsg pre post S nx none) (R12_parser_primary.K4 (callW (En n) (k - 1)) n K) := by
    intro i2 b3 b4 b5 b6 b7 p8 p9 h8 h9 h
    rw [C_eq, R12_parser_primary.cut4]
    refine r_want hs (show UU none nx (Rn (needP ⟨#[40]⟩) S nx _ _) _ from h) fun m b hs h => ?_
    rw [C_eq, R12_parser_primary.cut6, rsg_bad]
    cases b with
    | some a => exact h hs.le (.mk 0 ⟨#[]⟩ 0 0 [])
    | none =>
      show bcond false _ _
      rw [bcond_f]
      simp only [innerP, Rn_bind, Rn_end, Rn_pure] at h
      refine r_nd (fun K h => hE.any (by omega) hs h (by omega) (by omega)) hs h fun x m b _ hs h => ?_
      rw [C_eq, R12_parser_primary.cut8, h8, h9]
      show chk true _
      rw [chk_t]
      refine r_want hs h fun m b hs h => ?_
      rw [C_eq, R12_parser_primary.cut9, cI_of _ (fun K => rlast_spec (by omega) hs)]
      exact r_end hs h
  have hn0 : ∀ {kd : Int}, kd ≠ 0 → (peekT S.T S.sz nx).kind = kd → nx < S.T.length := fun hd e => peekT_lt (by rw [e]; exact hd)
  refine r_kindC h (fun _ e h => ?_) fun _ h => r_kindC h (fun _ e h => ?_) fun _ h => r_kindC h (fun _ e h => ?_) fun _ h => r_kindC h (fun _ e h => ?_) fun _ h => ?_
  · simp only [leafP, Rn_bind] at h
    refine r_text hs h fun t m b _ _ hs h => ?_
    exact r_node hs h fun x _ h => r_end hs h
  · simp only [leafP, Rn_bind] at h
    refine r_text hs h fun t m b _ _ hs h => ?_
    exact r_node hs h fun x _ h => r_end hs h
  · simp only [leafP, Rn_bind] at h
    refine r_text hs h fun t m b _ _ hs h => ?_
    exact r_node hs h fun x _ h => r_end hs h
  · exact r_nd (fun K h => rmeta_spec (.inr ⟨rfl, rfl⟩) e hs h) hs h fun x m b _ hs h => r_end hs h
  · have h : Rn (restP g E (peekT S.T S.sz nx)) S nx (fun t m => K ⟨false, nodeV t⟩ (rsg pre post S m none)) (GT pre post S K) := h
    have f2 : ∀ {t : ByteArray}, wordy t = true → isT S.T nx t = ((peekT S.T S.sz nx).kind == 2 && (peekT S.T S.sz nx).text.toList == t.toList) := fun h => isT_kind hs (.inl ⟨rfl, h⟩)
    by_cases e2 : (peekT S.T S.sz nx).kind = 2
    · have e2' : (kindV S nx none == 2) = true := by simp [kindV, e2]
      have hn := hn0 (by decide) e2
      have f2 : ∀ {t : ByteArray}, wordy t = true → isT S.T nx t = ((peekT S.T S.sz nx).text.toList == t.toList) := fun h => by rw [f2 h, e2]; rfl
      rw [e2', bcond_t, cB_of _ (fun K => rskip_spec (by omega) hs 2 ⟨#[110, 101, 119]⟩ (.inl ⟨rfl, rfl⟩))]
      cases en : isT S.T nx ⟨#[110, 101, 119]⟩ with
      | true =>
        show bcond true _ _
        rw [bcond_t]
        rw [rest_new en] at h
        have hs' := hs.mv (isT_lt en)
        simp only [newP, argsP, Rn_bind, Rn_pure] at h
        refine r_name (b := none) hs' h fun s m b hs h => ?_
        rw [C_eq, R12_parser_primary.cut2]
        refine r_want hs h fun m b hs h => ?_
        rw [C_eq, R12_parser_primary.cut5]
        refine r_args hE hs h (fun l m b hl hs h => ?_) hg (by omega) (by omega)
        rw [C_eq, R12_parser_primary.cut7]
        exact r_node hs h fun x _ h => r_end hs h
      | false =>
        show bcond false _ _
        rw [bcond_f]
        show C n _ 121 _ _ (rsg pre post S nx none) _
        rw [C_eq, R12_parser_primary.cut3, rsg_T, rsg_nx, tok_ok hn, tok_at hn S.sz]
        show chk true (chk true (chk true _))
        rw [chk_t, chk_t, chk_t]
        show cB _ 161 [.str (peekT S.T S.sz nx).text] _ _ _
        rw [cB_of _ (fun K => rconst _ K (by omega) (peekT S.T S.sz nx).text)]
        cases ec : isConst (peekT S.T S.sz nx).text with
        | true =>
          rw [bcond_t]
          have : isT S.T nx ⟨#[116, 114, 117, 101]⟩ = true ∨ isT S.T nx ⟨#[102, 97, 108, 115, 101]⟩ = true ∨ isT S.T nx ⟨#[110, 117, 108, 108]⟩ = true ∨ isT S.T nx ⟨#[116, 104, 105, 115]⟩ = true := by
            rw [f2 rfl, f2 rfl, f2 rfl, f2 rfl]
            unfold isConst at ec
            simpa [Bool.or_eq_true] using ec
          rw [rest_const this] at h
          have h' : UU none nx (Rn (kindP 2) S nx (fun n m => Rn (nodeP 18 n.text (peekT S.T S.sz nx).at_ []) S m (fun t m => K ⟨false, nodeV t⟩ (rsg pre post S m none)) (GT pre post S K)) (GT pre post S K)) (GT pre post S K) := by
            show Rn (kindP 2) _ _ _ _
            rw [Rn_kind_t hn e2]; exact h
          refine r_text hs h' fun t m b _ _ hs h => ?_
          exact r_node hs h fun x _ h => r_end hs h
        | false =>
          rw [bcond_f]
          have : isT S.T nx ⟨#[116, 114, 117, 101]⟩ = false ∧ isT S.T nx ⟨#[102, 97, 108, 115, 101]⟩ = false ∧ isT S.T nx ⟨#[110, 117, 108, 108]⟩ = false ∧ isT S.T nx ⟨#[116, 104, 105, 115]⟩ = false := by
            rw [f2 rfl, f2 rfl, f2 rfl, f2 rfl]
            unfold isConst at ec
            simpa [Bool.or_eq_false_iff] using ec
          rw [rest_open this.1 this.2.1 this.2.2.1 this.2.2.2 en] at h
          exact paren _ _ _ _ _ _ _ _ rfl rfl h
    · have e2' : (kindV S nx none == 2) = false := by simp [kindV, e2]
      have f2 : ∀ {t : ByteArray}, wordy t = true → isT S.T nx t = false := fun h => by
        rw [f2 h]; have : ((peekT S.T S.sz nx).kind == 2) = false := by simp [e2]
        rw [this]; rfl
      rw [e2', bcond_f]
      rw [rest_open (f2 rfl) (f2 rfl) (f2 rfl) (f2 rfl) (f2 rfl)] at h
      exact paren _ _ _ _ _ _ _ _ rfl rfl h
end
end Go.Ev
set_option maxRecDepth 4000
namespace Go.Ev
open PV
def SpU (pre post : List (List PV)) (n : Nat) (S : Src) (d : Nat) (p : Ps Tree) : Prop := ∀ k nx (K : Res → Out), d ≤ k → Fit S nx → UT pre post p S nx none K → callW (En n) k 81 [.ptr pre.length 0] (rsg pre post S nx none) K
theorem SpU.any {pre post : List (List PV)} {S : Src} {n d nx k : Nat} {p : Ps Tree} {b : Option Int} {K : Res → Out} (h : SpU pre post n S d p) (hn : 1 ≤ n) (hs : Fit S nx) (hu : UT pre post p S nx b K) (hk : 6 ≤ k) (hd : d ≤ k) : callW (En n) k 81 [.ptr pre.length 0] (rsg pre post S nx b) K := by
  cases b with
  | none => exact h k nx K hd hs hu
  | some a => exact junary hn hs hu
theorem drop_some {l : List Tree} {i : Nat} {y : Tree} {r : List Tree} (h : l.drop i = y :: r) : i < l.length ∧ l.getD i default = y ∧ l.drop (i + 1) = r := by
  have hil : i < l.length := by
    rcases Nat.lt_or_ge i l.length with h' | h'
    · exact h'
    · rw [List.drop_eq_nil_iff.2 h'] at h; cases h
  have : l[i]? = some y := by rw [← List.head?_drop, h]; rfl
  exact ⟨hil, by rw [List.getD_eq_getElem?_getD, this]; rfl, by rw [← List.drop_drop, h]; rfl⟩
section
variable {pre post : List (List PV)} {S : Src} {n g d : Nat} {E : Ps Tree} [hE : Sp E]
local instance : Fw E := Sp.fw'
theorem rcopy {k m5 a0 : Nat} {K : Res → Out} {sg : List (List PV)} {i1 i2 i4 i5 : Int} {t3 : ByteArray} {r6 : List (List PV)} {p7 : PV} {b11 b12 b13 b14 : Bool} (l : List Tree) (hl : l.length ≤ 2000000) :
    ∀ (r : List Tree) (i m : Nat) (acc : List Tree) (p15 : PV), l.drop i = r → i ≤ l.length → r.length < m → acc.length + r.length ≤ 2000001 →
    (∀ m p15, 1 ≤ m → L n (callW (En n) k) 81 [1, 1, 1, 1, 0, 0, 0, 1, 0, 1, 1, 1, 0, 1, 1, 0, 1, 0, 0] (R12_parser_unary.S8 a0 i1 i2 t3 i4 i5 r6 p7 (kidRows (acc ++ r)) (.list false (kidRows l)) (l.length : Int) b11 b12 b13 b14 p15) sg (R12_parser_unary.K8 (callW (En n) k) n m5 K) m) →
    L n (callW (En n) k) 81 [1, 1, 1, 1, 0, 0, 0, 1, 0, 1, 1, 1, 0, 1, 1, 0, 1, 0, 0] (R12_parser_unary.S8 a0 i1 i2 t3 i4 i5 r6 p7 (kidRows acc) (.list false (kidRows l)) (i : Int) b11 b12 b13 b14 p15) sg (R12_parser_unary.K8 (callW (En n) k) n m5 K) m
  | r, i, 0, acc, p15, _, _, hm, _, _ => by omega
  | [], i, m + 1, acc, p15, hr, hi, hm, ha, H => by
    have : i = l.length := by have := List.drop_eq_nil_iff.1 hr; omega
    subst this
    rw [List.append_nil] at H
    exact H (m + 1) p15 (by omega)
  | y :: r, i, m + 1, acc, p15, hr, hi, hm, ha, H => by
    obtain ⟨hil, hy, hr'⟩ := drop_some hr
    have ha' : acc.length ≤ 2000001 := by simp at ha; omega
    rw [L_succ, R12_parser_unary.loop8]
    have e1 : decide ((i : Int) < (l.length : Int)) = true := decide_eq_true (by omega)
    have e4 : decide ((0 : Int) ≤ (i : Int)) = true := decide_eq_true (by omega)
    have e5 : IntKind.i64.wrap ((i : Int) + 1) = ((i + 1 : Nat) : Int) := wrap_id _ (by omega) (by omega)
    have e2 : (((PV.list false (kidRows l)).strip).strip).rows = kidRows l := rfl
    rw [e2, kidRows_len, e1, kidRows_ok, e4, kid_at l i hil, hy, e5]
    show chk true (bcond true _ _)
    rw [chk_t, bcond_t]
    show chk (rowsOk 5 (kidRows acc) && decide ((kidRows acc).length + 1 ≤ mostL)) (L n _ 81 _ (R12_parser_unary.S8 _ _ _ _ _ _ _ _ (kidRows acc ++ [[.int .i64 y.kind, .str y.text, .int .i64 y.at_, .int .i64 y.end_, .list false (kidRows y.kids)]]) _ _ _ _ _ _ _) _ _ _)
    rw [app_okL acc (by omega), kidRows_snoc]
    exact rcopy l hl r (i + 1) m _ _ hr' (by omega) (by simp at hm; omega) (by simp at ha ⊢; omega) (by rw [List.append_assoc]; exact H)
theorem Rn_is_args {nx : Nat} {f : List Tree → Ps Tree} {q : Ps Tree} {F : Tree → Nat → Prop} {G : Int → Nat → Prop} : Rn (isC ⟨#[40]⟩ (do let l ← argsP g E; f l) q) S nx F G = Rn (takeC ⟨#[40]⟩ (do let l ← parensP E g; needP ⟨#[41]⟩; f l) q) S nx F G := by
  cases e : isT S.T nx ⟨#[40]⟩ with
  | true => simp only [Rn_is_t e, Rn_take_t e, argsP, Rn_bind, Rn_need_t e, Rn_pure]
  | false => rw [Rn_is_f e, Rn_take_f e]
theorem rpost_loop {k : Nat} {K : Res → Out} {i1 : Int} (hE : SpR pre post n S d E) (hg : g + 2 ≤ n) (hn : 2000010 ≤ n) (hk : 20 ≤ k) (hd : d + 4 ≤ k) : ∀ (m j nx : Nat) (b : Option Int) (x : Tree) (p7 p8 p9 p10 p12 p13 p14 p15 : PV) (b11 : Bool), 1 ≤ m → (b = none → j + 1 ≤ m) → Fit S nx → UT pre post (postP g E j x) S nx b K →
    L n (callW (En n) k) 81 [1, 1, 1, 1, 0, 0, 0] (R12_parser_unary.S5 pre.length i1 x.kind x.text x.at_ x.end_ (kidRows x.kids) p7 p8 p9 p10 b11 p12 p13 p14 p15) (rsg pre post S nx b) (R12_parser_unary.K5 (callW (En n) k) n K) m
  | 0, j, nx, b, x, _, _, _, _, _, _, _, _, _, hm, _, _, _ => by omega
  | m + 1, j, nx, b, x, p7, p8, p9, p10, p12, p13, p14, p15, b11, hm, hb, hs, h => by
    rw [L_succ, R12_parser_unary.loop5, rsg_bad]
    cases b with
    | some a => exact h hs.le x
    | none =>
      have hj := hb rfl
      cases j with
      | zero => exact h.elim
      | succ j =>
        show bcond true _ _
        rw [bcond_t]
        have h : UU none nx (Rn (postP g E (j + 1) x) S nx (fun t m => K ⟨false, nodeV t⟩ (rsg pre post S m none)) (GT pre post S K)) (GT pre post S K) := h
        unfold postP at h
        refine r_skip hs h (fun _ hs h => ?_) fun e0 h => ?_
        · simp only [Rn_bind] at h
          refine r_text hs h fun t m2 b2 _ _ hs2 h => ?_
          rw [C_eq, R12_parser_unary.cut6]
          refine r_node hs2 h fun y _ h => ?_
          exact rpost_loop hE hg hn hk hd m j _ _ _ _ _ _ _ _ _ _ _ _ (by omega) (fun _ => by omega) hs2 h
        · have h : UU none nx (Rn (isC ⟨#[40]⟩ (do let l ← argsP g E; let y ← nodeP 20 ⟨#[]⟩ x.at_ (x :: l); postP g E j y) (pure x)) S nx (fun t m => K ⟨false, nodeV t⟩ (rsg pre post S m none)) (GT pre post S K)) (GT pre post S K) := h
          rw [Rn_is_args] at h
          refine r_skip hs h (fun _ hs h => ?_) fun e0 h => ?_
          · simp only [Rn_bind] at h
            refine r_args hE hs h (fun l m2 b2 hl hs2 h => ?_) hg (by omega) (by omega)
            rw [C_eq, R12_parser_unary.cut7, kidRows_one]
            show L n _ 81 _ (R12_parser_unary.S8 _ _ _ _ _ _ _ _ (kidRows [x]) (.list false (kidRows l)) ((0 : Nat) : Int) _ _ _ _ _) _ _ _
            refine rcopy l hl l 0 n [x] _ rfl (Nat.zero_le _) (by omega) (by simp; omega) fun m8 p15 hm8 => ?_
            obtain ⟨m8, rfl⟩ : ∃ j, m8 = j + 1 := ⟨m8 - 1, by omega⟩
            rw [L_succ, R12_parser_unary.loop8]
            have e1 : decide ((l.length : Int) < (l.length : Int)) = false := decide_eq_false (by omega)
            have e2 : (((PV.list false (kidRows l)).strip).strip).rows = kidRows l := rfl
            rw [e2, kidRows_len, e1]
            show chk true (bcond false _ _)
            rw [chk_t, bcond_f]
            refine r_node hs2 h fun y _ h => ?_
            exact rpost_loop hE hg hn hk hd m j _ _ _ _ _ _ _ _ _ _ _ _ (by omega) (fun _ => by omega) hs2 h
          · exact h
theorem runaryB_spec {nx k dU : Nat} {K : Res → Out} {U : Ps Tree} [Sp U] (hE : SpR pre post n S d E) (hU : SpU pre post n S dU U) (hg : g + 2 ≤ n) (hn : 2000010 ≤ n) (hs : Fit S nx) (h : UT pre post (unaryB g E U) S nx none K) (hk : 21 ≤ k) (hd : d + 5 ≤ k) (hdu : dU + 1 ≤ k) : callW (En n) k 81 [.ptr pre.length 0] (rsg pre post S nx none) K := by
  have : Fw U := Sp.fw'
  simp only [UT, unaryB, Rn_bind, Rn_peek] at h
  have h : Rn (takeC ⟨#[33]⟩ (signP U (peekT S.T S.sz nx)) (takeC ⟨#[45]⟩ (signP U (peekT S.T S.sz nx)) (do let x ← primaryP g E; postP g E g x))) S nx (fun t m => K ⟨false, nodeV t⟩ (rsg pre post S m none)) (GT pre post S K) := h
  rw [callW_at (by omega) rfl, R12_parser_unary.eq, cI_of _ (fun K => rfrom_spec (by omega) hs), C_eq, R12_parser_unary.cut0]
  have sign : ∀ (b3 : Bool), nx < S.T.length → (peekT S.T S.sz nx).kind = 5 → Rn (signP U (peekT S.T S.sz nx)) S (nx + 1) (fun t m => K ⟨false, nodeV t⟩ (rsg pre post S m none)) (GT pre post S K) →
      cS (callW (En n) (k - 1)) 65 [.ptr pre.length 0, .int .i64 5] (rsg pre post S nx none) (pan K) fun t s => C n (callW (En n) (k - 1)) 81 [1, 1, 0, 1, 0, 1] (R12_parser_unary.S1 pre.length (peekT S.T S.sz nx).at_ t b3) s (R12_parser_unary.K1 (callW (En n) (k - 1)) n K) := by
    intro b3 hl e5 h
    have h' : UU none nx (Rn (kindP 5) S nx (fun u m => Rn (do let x ← U; nodeP 22 u.text (peekT S.T S.sz nx).at_ [x]) S m (fun t m => K ⟨false, nodeV t⟩ (rsg pre post S m none)) (GT pre post S K)) (GT pre post S K)) (GT pre post S K) := by
      show Rn (kindP 5) _ _ _ _
      rw [Rn_kind_t hl e5]; exact h
    refine r_text hs h' fun t m b _ _ hs h => ?_
    simp only [Rn_bind] at h
    rw [C_eq, R12_parser_unary.cut1]
    refine r_nd (fun K h => hU.any (by omega) hs h (by omega) (by omega)) hs h fun x m b _ hs h => ?_
    rw [C_eq, R12_parser_unary.cut3]
    exact r_node hs h fun x _ h => r_end hs h
  refine r_ask hs (fun _ e e5 _ => ?_) fun e => ?_
  · rw [bcond_t]
    rw [Rn_take_t e] at h
    exact sign _ (isT_lt e) e5 h
  · rw [bcond_f]
    rw [Rn_take_f (e rfl)] at h
    refine r_ask hs (fun _ e e5 _ => ?_) fun e => ?_
    · rw [bcond_t]
      rw [Rn_take_t e] at h
      exact sign _ (isT_lt e) e5 h
    · rw [bcond_f]
      rw [Rn_take_f (e rfl), Rn_bind] at h
      rw [C_eq, R12_parser_unary.cut2]
      refine r_nd (b := none) (fun K h => rprimary_spec hE hg hs h (by omega) (by omega)) hs h fun x m b _ hs h => ?_
      rw [C_eq, R12_parser_unary.cut4]
      exact rpost_loop hE hg hn (by omega) (by omega) n g _ _ _ _ _ _ _ _ _ _ _ _ (by omega) (fun _ => by omega) hs h
theorem rknotU_spec (hE : SpR pre post n S d E) (hg : g + 2 ≤ n) (hn : 2000010 ≤ n) : ∀ j, SpU pre post n S (d + 22 + j) (knotU g E j)
  | 0 => fun k nx K _ _ h => h.elim
  | j + 1 => fun k nx K hk hs h => runaryB_spec hE (rknotU_spec hE hg hn j) hg hn hs h (by omega) (by omega) (by omega)
theorem runary_spec (hE : SpR pre post n S d E) (hg : g + 2 ≤ n) (hn : 2000010 ≤ n) : SpU pre post n S (d + 23 + g) (unaryP g E) := fun k nx K hk hs h =>
  runaryB_spec hE (rknotU_spec hE hg hn g) hg hn hs h (by omega) (by omega) (by omega)
/-- The loop over a level's operators. -/
theorem rops_loop {k m3 nx : Nat} {K : Res → Out} {i1 i2 i4 i5 : Int} {t3 : ByteArray} {r6 : List (List PV)} {p10 p15 : PV} {b11 b12 : Bool} (hk : 3 ≤ k) (hs : Fit S nx) (l : List ByteArray) (hl : l.length ≤ 100) (hw : ∀ o ∈ l, wordy o = false) :
    ∀ (r : List ByteArray) (i m : Nat) (t8 : ByteArray) (p13 p14 : PV), l.drop i = r → i ≤ l.length → r.length < m → NB p14 →
    (∀ p13 p14 m, NB p14 → 1 ≤ m → L n (callW (En n) k) 43 [1, 1, 1, 1, 0, 0, 0, 1, 0, 1, 0, 1, 0, 0] (R12_parser_expr.S4 pre.length i1 i2 t3 i4 i5 r6 (.list true (strRows l)) (if ((peekT S.T S.sz nx).kind == 5 && r.any fun o => (peekT S.T S.sz nx).text.toList == o.toList) = true then (peekT S.T S.sz nx).text else t8) (l.length : Int) p10 b11 b12 p13 p14 p15) (rsg pre post S nx none) (R12_parser_expr.K4 (callW (En n) k) n m3 K) m) →
    L n (callW (En n) k) 43 [1, 1, 1, 1, 0, 0, 0, 1, 0, 1, 0, 1, 0, 0] (R12_parser_expr.S4 pre.length i1 i2 t3 i4 i5 r6 (.list true (strRows l)) t8 (i : Int) p10 b11 b12 p13 p14 p15) (rsg pre post S nx none) (R12_parser_expr.K4 (callW (En n) k) n m3 K) m
  | r, i, 0, t8, p13, p14, _, _, hm, _, _ => by omega
  | [], i, m + 1, t8, p13, p14, hr, hi, hm, h14, H => by
    have : i = l.length := by have := List.drop_eq_nil_iff.1 hr; omega
    subst this
    have := H p13 p14 (m + 1) h14 (by omega)
    simpa using this
  | o :: r, i, m + 1, t8, p13, p14, hr, hi, hm, h14, H => by
    have hil : i < l.length := by
      rcases Nat.lt_or_ge i l.length with h | h
      · exact h
      · rw [List.drop_eq_nil_iff.2 h] at hr; cases hr
    have hmem : o ∈ l := List.mem_of_mem_drop (by rw [hr]; exact List.mem_cons_self)
    have ho : l.getD i ⟨#[]⟩ = o := by
      have : l[i]? = some o := by rw [← List.head?_drop, hr]; rfl
      rw [List.getD_eq_getElem?_getD, this]; rfl
    have hr' : l.drop (i + 1) = r := by rw [← List.drop_drop, hr]; rfl
    have fo : fitK 5 o := .inr ⟨rfl, hw o hmem⟩
    rw [L_succ, R12_parser_expr.loop4]
    have e1 : decide ((i : Int) < (l.length : Int)) = true := decide_eq_true (by omega)
    have e2 : (((PV.list true (strRows l)).strip).strip).rows = strRows l := rfl
    have e4 : decide ((0 : Int) ≤ (i : Int)) = true := decide_eq_true (by omega)
    have e5 : IntKind.i64.wrap ((i : Int) + 1) = ((i + 1 : Nat) : Int) := wrap_id _ (by omega) (by omega)
    rw [e2, strRows_len, e1, strRows_ok, e4, strRows_at l i hil, ho, e5]
    show chk true (bcond true _ _)
    rw [chk_t, bcond_t]
    show chk true (chk true (chk true _))
    rw [chk_t, chk_t, chk_t]
    show cB _ 63 [_, _, .str o] _ _ _
    refine r_ask hs (fun _ e e5 et => ?_) (fun e => ?_) (hd := fo)
    · rw [bcond_t]
      show chk true (chk true (chk true _))
      rw [chk_t, chk_t, chk_t]
      show L n _ 43 _ (R12_parser_expr.S4 _ _ _ _ _ _ _ _ o _ _ _ _ _ _ _) _ _ _
      refine rops_loop hk hs l hl hw r (i + 1) m o _ _ hr' (by omega) (by simp at hm; omega) (fun _ => rfl) fun p13 p14 m h14 hm => ?_
      have := H p13 p14 m h14 hm
      have hto : (peekT S.T S.sz nx).text = o := text_eq et
      have c1 : ((peekT S.T S.sz nx).kind == 5 && (o :: r).any fun o => (peekT S.T S.sz nx).text.toList == o.toList) = true := by
        rw [e5, List.any_cons, et]; simp
      rw [if_pos c1] at this
      rw [hto] at this ⊢
      rw [ite_self]
      exact this
    · rw [bcond_f]
      refine rops_loop hk hs l hl hw r (i + 1) m t8 _ _ hr' (by omega) (by simp at hm; omega) (fun _ => rfl) fun p13 p14 m h14 hm => ?_
      have := H p13 p14 m h14 hm
      have e := e rfl
      rw [isT_kind hs fo] at e
      have c1 : ((peekT S.T S.sz nx).kind == 5 && (o :: r).any fun o => (peekT S.T S.sz nx).text.toList == o.toList) = ((peekT S.T S.sz nx).kind == 5 && r.any fun o => (peekT S.T S.sz nx).text.toList == o.toList) := by
        rw [List.any_cons, Bool.and_or_distrib_left, e, Bool.false_or]
      rw [c1] at this
      exact this
theorem rbin_loop {k lv : Nat} {K : Res → Out} {sub : Ps Tree} [Sp sub] (l : List ByteArray) (hl : l.length ≤ 100) (hw : ∀ o ∈ l, wordy o = false) (he : ∀ o ∈ l, o.toList ≠ (⟨#[]⟩ : ByteArray).toList) (hlv : lv < 6) (hn : 101 ≤ n) (hk : 5 ≤ k)
    (hsub : ∀ nx b (K : Res → Out), Fit S nx → UT pre post sub S nx b K → callW (En n) k 43 [.ptr pre.length 0, .int .i64 ((lv + 1 : Nat) : Int)] (rsg pre post S nx b) K) :
    ∀ (m j nx : Nat) (b : Option Int) (x : Tree) (p8 p9 p10 p12 p13 p14 p15 : PV) (b11 : Bool), 1 ≤ m → (b = none → j + 1 ≤ m) → NB p10 → NB p14 → Fit S nx → UT pre post (binLoop l sub j x) S nx b K →
    L n (callW (En n) k) 43 [1, 1, 1, 1, 0, 0, 0] (R12_parser_expr.S3 pre.length (lv : Int) x.kind x.text x.at_ x.end_ (kidRows x.kids) (.list true (strRows l)) p8 p9 p10 b11 p12 p13 p14 p15) (rsg pre post S nx b) (R12_parser_expr.K3 (callW (En n) k) n K) m
  | 0, j, nx, b, x, _, _, _, _, _, _, _, _, hm, _, _, _, _, _ => by omega
  | m + 1, j, nx, b, x, p8, p9, p10, p12, p13, p14, p15, b11, hm, hb, h10, h14, hs, h => by
    have : Fw sub := Sp.fw'
    rw [L_succ, R12_parser_expr.loop3, rsg_bad]
    cases b with
    | some a => exact h hs.le x
    | none =>
      have hj := hb rfl
      cases j with
      | zero => exact h.elim
      | succ j =>
        have h : Rn (binLoop l sub (j + 1) x) S nx (fun t m => K ⟨false, nodeV t⟩ (rsg pre post S m none)) (GT pre post S K) := h
        simp only [binLoop, Rn_bind, Rn_peek] at h
        show bcond true _ _
        rw [bcond_t]
        show L n _ 43 _ (R12_parser_expr.S4 _ _ _ _ _ _ _ _ _ ((0 : Nat) : Int) _ _ _ _ _ _) _ _ _
        refine rops_loop (by omega) hs l hl hw l 0 n ⟨#[]⟩ _ _ rfl (Nat.zero_le _) (by omega) h14 fun p13 p14 m4 h14 hm4 => ?_
        obtain ⟨m4, rfl⟩ : ∃ j, m4 = j + 1 := ⟨m4 - 1, by omega⟩
        rw [L_succ, R12_parser_expr.loop4]
        have e1 : decide ((l.length : Int) < (l.length : Int)) = false := decide_eq_false (by omega)
        have e2 : (((PV.list true (strRows l)).strip).strip).rows = strRows l := rfl
        rw [e2, strRows_len, e1]
        show chk true (bcond false _ _)
        rw [chk_t, bcond_f, C_eq, R12_parser_expr.cut5]
        by_cases hc : (peekT S.T S.sz nx).kind = 5 ∧ (l.any fun o => (peekT S.T S.sz nx).text.toList == o.toList) = true
        · rw [if_pos hc] at h
          simp only [Rn_bind] at h
          obtain ⟨hs', h⟩ := w_known hs h hc.1
          have c1 : ((peekT S.T S.sz nx).kind == 5 && l.any fun o => (peekT S.T S.sz nx).text.toList == o.toList) = true := by rw [hc.1, hc.2]; rfl
          have c2 : ((peekT S.T S.sz nx).text.toList == (⟨#[]⟩ : ByteArray).toList) = false := by
            obtain ⟨o, ho, heq⟩ := List.any_eq_true.1 hc.2
            have : (peekT S.T S.sz nx).text.toList = o.toList := by simpa using heq
            rw [this]; simpa using he o ho
          have hw1 : IntKind.i64.wrap ((nx : Int) + 1) = ((nx + 1 : Nat) : Int) := wrap_id _ (by omega) (by have := hs.le; have := hs.len; omega)
          have hw2 : IntKind.i64.wrap ((lv : Int) + 1) = ((lv + 1 : Nat) : Int) := wrap_id _ (by omega) (by omega)
          rw [if_pos c1, c2, bcond_f, rsg_nx, hw1, rsg_set, hw2]
          refine r_nd (fun K h => hsub _ _ K hs' h) hs' (show UU none (nx + 1) (Rn sub S (nx + 1) _ _) _ from h) fun y m2 b2 _ hs2 h => ?_
          have hq : isBaddr 9 (PV.list true (strRows l)) = false := rfl
          rw [hq, h10 9, h14 9]
          show C n _ 43 _ _ _ _
          rw [C_eq, R12_parser_expr.cut6]
          refine r_node hs2 h fun z _ h => ?_
          exact rbin_loop l hl hw he hlv hn hk hsub m j _ _ _ _ _ _ _ _ _ _ _ (by omega) (fun _ => by omega) (fun _ => rfl) h14 hs2 h
        · rw [if_neg hc] at h
          have c1 : ¬ ((peekT S.T S.sz nx).kind == 5 && l.any fun o => (peekT S.T S.sz nx).text.toList == o.toList) = true := by
            rw [Bool.and_eq_true]; intro h; exact hc ⟨by simpa using h.1, h.2⟩
          rw [if_neg c1, BEq.rfl, bcond_t]
          exact h
theorem levels_drop : ∀ lv, lv < 6 → levels.drop lv = levels.getD lv [] :: levels.drop (lv + 1)
  | 0, _ => rfl
  | 1, _ => rfl
  | 2, _ => rfl
  | 3, _ => rfl
  | 4, _ => rfl
  | 5, _ => rfl
  | lv + 6, h => by omega
theorem levels_ok : ∀ l ∈ levels, l.length ≤ 100 ∧ (∀ o ∈ l, wordy o = false) ∧ ∀ o ∈ l, o.data.toList ≠ [] := by decide
theorem rbin_spec (hE : SpR pre post n S d E) (hg : g + 2 ≤ n) (hn : 2000010 ≤ n) : ∀ (j lv : Nat), lv + j = 6 → ∀ k nx (K : Res → Out), d + 25 + g + j ≤ k → Fit S nx → UT pre post (binP g E (levels.drop lv)) S nx none K →
    callW (En n) k 43 [.ptr pre.length 0, .int .i64 (lv : Int)] (rsg pre post S nx none) K
  | 0, lv, hlv, k, nx, K, hk, hs, h => by
    have : lv = 6 := by omega
    subst this
    rw [callW_at (by omega) rfl, R12_parser_expr.eq]
    show bcond true _ _
    rw [bcond_t]
    exact r_nd (p := unaryP g E) (fun K h => runary_spec hE hg hn _ _ K (by omega) hs h) hs h fun x m b _ hs h => r_end hs h
  | j + 1, lv, hlv, k, nx, K, hk, hs, h => by
    have hlt : lv < 6 := by omega
    have e : ((lv : Int) == 6) = false := by simp; omega
    have hw : IntKind.i64.wrap ((lv : Int) + 1) = ((lv + 1 : Nat) : Int) := wrap_id _ (by omega) (by omega)
    have any : ∀ nx b (K : Res → Out), Fit S nx → UT pre post (binP g E (levels.drop (lv + 1))) S nx b K → callW (En n) (k - 1) 43 [.ptr pre.length 0, .int .i64 ((lv + 1 : Nat) : Int)] (rsg pre post S nx b) K := fun nx b K hs h => by
      cases b with
      | none => exact rbin_spec hE hg hn j (lv + 1) (by omega) (k - 1) nx K (by omega) hs h
      | some a => exact jexpr (by omega) hs j (lv + 1) _ K (by omega) (by omega) h
    rw [levels_drop lv hlt] at h
    simp only [UT, binP, Rn_bind] at h
    rw [callW_at (by omega) rfl, R12_parser_expr.eq, e, bcond_f, C_eq, R12_parser_expr.cut0, hw]
    refine r_nd (fun K h => any _ _ K hs h) hs h fun x m b _ hs h => ?_
    rw [C_eq, R12_parser_expr.cut1, cP, rops _ _ (by omega) lv hlt]
    show C n _ 43 _ _ _ _
    rw [C_eq, R12_parser_expr.cut2]
    have hm : levels.getD lv [] ∈ levels := by
      rw [List.getD_eq_getElem?_getD, List.getElem?_eq_getElem (show lv < levels.length from hlt)]; exact List.getElem_mem _
    obtain ⟨l1, l2, l3⟩ := levels_ok _ hm
    exact rbin_loop _ l1 l2 (fun o ho => by rw [Lib.toList_data, Lib.toList_data]; exact l3 o ho) hlt (by omega) (by omega) (fun nx b K hs h => any nx b K hs h) n g _ _ _ _ _ _ _ _ _ _ _ (by omega) (fun _ => by omega) (fun _ => rfl) (fun _ => rfl) hs h
theorem rexprB_spec (hE : SpR pre post n S d E) (hg : g + 2 ≤ n) (hn : 2000010 ≤ n) : SpR pre post n S (d + 31 + g) (exprB g E) := fun k nx K hk hs h => rbin_spec hE hg hn 6 0 rfl k nx K (by omega) hs h
end
/-- The depth of expressions. -/
def eE (g : Nat) : Nat → Nat
  | 0 => 0
  | j + 1 => eE g j + 31 + g
section
variable {pre post : List (List PV)} {S : Src} {n g : Nat}
theorem rknotE_spec (hg : g + 2 ≤ n) (hn : 2000010 ≤ n) : ∀ j, SpR pre post n S (eE g j) (knotE g j)
  | 0 => fun k nx K _ _ h => h.elim
  | j + 1 => rexprB_spec (rknotE_spec hg hn j) hg hn
theorem rexpr_spec (hg : g + 2 ≤ n) (hn : 2000010 ≤ n) : SpR pre post n S (eE g g + 31 + g) (exprP g) := rexprB_spec (rknotE_spec hg hn g) hg hn
end
end Go.Ev
set_option maxRecDepth 4000
namespace Go.Ev
open PV
def eX (g : Nat) : Nat := eE g g + 31 + g + 13
section
variable {pre post : List (List PV)} {S : Src} {n g : Nat}
theorem rexprX (hg : g + 2 ≤ n) (hn : 2000010 ≤ n) {nx k : Nat} {b : Option Int} {K : Res → Out} (hk : eX g ≤ k) (hs : Fit S nx) (h : UT pre post (exprP g) S nx b K) : callW (En n) k 43 [.ptr pre.length 0, .int .i64 0] (rsg pre post S nx b) K := by
  unfold eX at hk
  exact (rexpr_spec hg hn).any (by omega) hs h (by omega) (by omega)
theorem rvariable_spec (hg : g + 2 ≤ n) (hn : 2000010 ≤ n) {nx k : Nat} {b : Option Int} {K : Res → Out} (hk : eX g + 10 ≤ k) (hs : Fit S nx) (h : UT pre post (variableP g) S nx b K) : callW (En n) k 85 [.ptr pre.length 0] (rsg pre post S nx b) K := by
  simp only [UT, variableP, Rn_bind, Rn_peek, Rn_end] at h
  rw [callW_at (by omega) rfl, R12_parser_variable.eq, cI_of _ (fun K => rfrom_spec (by omega) hs), C_eq, R12_parser_variable.cut0]
  refine r_want hs h fun m b hs h => ?_
  rw [C_eq, R12_parser_variable.cut1]
  refine r_text hs h fun nm m b _ _ hs h => ?_
  rw [C_eq, R12_parser_variable.cut2]
  refine r_want hs h fun m b hs h => ?_
  rw [C_eq, R12_parser_variable.cut3]
  refine r_nd (fun K h => rtyp_spec hs h) hs h fun y m b _ hs h => ?_
  rw [C_eq, R12_parser_variable.cut4, cI_of _ (fun K => rlast_spec (by omega) hs), C_eq, R12_parser_variable.cut5]
  refine r_skip hs h (fun _ hs h => ?_) fun _ h => ?_
  · simp only [oneP, Rn_bind, Rn_pure] at h
    refine r_nd (fun K h => rexprX hg hn (by omega) hs h) hs h fun x m2 b _ hs h => ?_
    rw [C_eq, R12_parser_variable.cut6]
    refine r_want hs h fun m3 b hs h => ?_
    rw [C_eq, R12_parser_variable.cut7]
    refine r_list (ks := [x]) ?_
    exact r_node hs h fun x _ h => r_end hs h
  · simp only [Rn_pure] at h
    rw [C_eq, R12_parser_variable.cut6]
    refine r_want hs h fun m3 b hs h => ?_
    rw [C_eq, R12_parser_variable.cut7]
    refine r_list (ks := []) ?_
    exact r_node hs h fun x _ h => r_end hs h
theorem rcond_spec (hg : g + 2 ≤ n) (hn : 2000010 ≤ n) {nx k : Nat} {b : Option Int} {K : Res → Out} (hk : eX g + 10 ≤ k) (hs : Fit S nx) (h : UT pre post (condP g) S nx b K) : callW (En n) k 88 [.ptr pre.length 0] (rsg pre post S nx b) K := by
  simp only [UT, condP, Rn_bind, Rn_pure] at h
  rw [callW_at (by omega) rfl, R12_parser_condition.eq]
  refine r_want hs h fun m b hs h => ?_
  rw [C_eq, R12_parser_condition.cut0]
  refine r_nd (fun K h => rexprX hg hn (by omega) hs h) hs h fun x m b _ hs h => ?_
  exact r_want hs h fun m b hs h => r_end hs h
def SpS (pre post : List (List PV)) (n : Nat) (S : Src) (d : Nat) (p : Ps Tree) : Prop := ∀ k nx (K : Res → Out), d ≤ k → Fit S nx → UT pre post p S nx none K → callW (En n) k 44 [.ptr pre.length 0] (rsg pre post S nx none) K
theorem rblock_loop {R : Ps Tree} [Sp R] {k d : Nat} {a : Int} {F : Tree → Nat → Prop} {K : Res → Out} (hR : SpS pre post n S d R) (hk : 5 ≤ k) (hd : d ≤ k) : ∀ (m j nx : Nat) (b : Option Int) (acc : List Tree) (p3 : PV), 1 ≤ m → (b = none → j + 1 ≤ m ∧ acc.length ≤ nx) → Fit S nx →
    UU b nx (Rn (stmtsP R j acc) S nx (fun l m => Rn (needP ⟨#[125]⟩) S m (fun _ m => Rn (nodeP 9 ⟨#[]⟩ a l) S m (fun t m => K ⟨false, nodeV t⟩ (rsg pre post S m none)) (GT pre post S K)) (GT pre post S K)) (GT pre post S K)) (GT pre post S K) →
    L n (callW (En n) k) 86 [1, 1, 1, 1, 0, 0, 0] (R12_parser_block.S2 pre.length a (kidRows acc) p3) (rsg pre post S nx b) (R12_parser_block.K2 (callW (En n) k) n K) m
  | 0, j, nx, b, acc, p3, hm, _, _, h => by omega
  | m + 1, j, nx, b, acc, p3, hm, hb, hs, h => by
    have tail : ∀ (nx : Nat) (b : Option Int) (b3 : Bool), Fit S nx → UU b nx (Rn (needP ⟨#[125]⟩) S nx (fun _ m => Rn (nodeP 9 ⟨#[]⟩ a acc) S m (fun t m => K ⟨false, nodeV t⟩ (rsg pre post S m none)) (GT pre post S K)) (GT pre post S K)) (GT pre post S K) →
        C n (callW (En n) k) 86 [1, 1, 1, 1, 1] (R12_parser_block.S4 pre.length a (kidRows acc) b3) (rsg pre post S nx b) (R12_parser_block.K4 (callW (En n) k) n K) := by
      intro nx b b3 hs h
      rw [C_eq, R12_parser_block.cut4]
      refine r_want hs h fun m b hs h => ?_
      rw [C_eq, R12_parser_block.cut5]
      exact r_node hs h fun x _ h => r_end hs h
    rw [L_succ, R12_parser_block.loop2, rsg_bad]
    cases b with
    | some a =>
      show bcond false _ _
      rw [bcond_f]
      exact tail nx (some a) _ hs h
    | none =>
      obtain ⟨hj, hl⟩ := hb rfl
      have hl' : acc.length ≤ 1000000 := by have := hs.le; have := hs.len; omega
      cases j with
      | zero => exact h.elim
      | succ j =>
        have h : Rn (stmtsP R (j + 1) acc) S nx (fun l m => Rn (needP ⟨#[125]⟩) S m (fun _ m => Rn (nodeP 9 ⟨#[]⟩ a l) S m (fun t m => K ⟨false, nodeV t⟩ (rsg pre post S m none)) (GT pre post S K)) (GT pre post S K)) (GT pre post S K) := h
        unfold stmtsP at h
        show bcond true _ _
        rw [bcond_t]
        refine r_ask hs (fun _ e _ _ => ?_) fun e => ?_
        · show bcond false _ _
          rw [bcond_f]
          rw [Rn_is_t e, Rn_pure] at h
          exact tail nx none _ hs h
        · show bcond true _ _
          rw [bcond_t]
          rw [Rn_is_f (e rfl), Rn_bind] at h
          rw [C_eq, R12_parser_block.cut3]
          refine r_ndS (b := none) (fun K h => hR _ _ K (by omega) hs h) hs h fun x m2 b2 hb2 hs2 h => ?_
          rw [app_ok acc hl', kidRows_snoc]
          exact rblock_loop (F := F) hR hk hd m j _ _ _ _ (by omega) (fun e => ⟨by omega, by have := (hb2 e).2; simp; omega⟩) hs2 h
theorem rblockB_spec {R : Ps Tree} [Sp R] {d : Nat} (hR : SpS pre post n S d R) (hg : g + 2 ≤ n) {nx k : Nat} {b : Option Int} {K : Res → Out} (hk : d + 6 ≤ k) (hs : Fit S nx) (h : UT pre post (blockB g R) S nx b K) : callW (En n) k 86 [.ptr pre.length 0] (rsg pre post S nx b) K := by
  simp only [UT, blockB, Rn_bind, Rn_peek] at h
  rw [callW_at (by omega) rfl, R12_parser_block.eq, cI_of _ (fun K => rfrom_spec (by omega) hs), C_eq, R12_parser_block.cut0]
  refine r_want hs h fun m b hs h => ?_
  rw [C_eq, R12_parser_block.cut1]
  exact rblock_loop (F := fun _ _ => True) hR (by omega) (by omega) n g _ _ [] _ (by omega) (fun _ => ⟨by omega, Nat.zero_le _⟩) hs h
theorem part_7 {α : Type} {p : Tree → Ps α} {q : Ps α} {nx : Nat} {F : α → Nat → Prop} {G : Int → Nat → Prop} (e : (peekT S.T S.sz nx).kind = 7) : Rn (partC p q) S nx F G = Rn (partK 7 26) S nx (fun x m => Rn (p x) S m F G) G := by
  rw [← Rn_bind]; unfold Rn partC; rw [if_pos e]
theorem part_6 {α : Type} {p : Tree → Ps α} {q : Ps α} {nx : Nat} {F : α → Nat → Prop} {G : Int → Nat → Prop} (e : (peekT S.T S.sz nx).kind = 6) (e2 : (peekT S.T S.sz (nx + 1)).kind = 5) (e3 : ((peekT S.T S.sz (nx + 1)).text.toList == (⟨#[59]⟩ : ByteArray).toList) = true) : Rn (partC p q) S nx F G = Rn (partK 6 25) S nx (fun x m => Rn (p x) S m F G) G := by
  rw [← Rn_bind]; unfold Rn partC; rw [if_neg (by rw [e]; decide), if_pos ⟨e, e2, e3⟩]
theorem part_no {α : Type} {p : Tree → Ps α} {q : Ps α} {nx : Nat} {F : α → Nat → Prop} {G : Int → Nat → Prop} (e : (peekT S.T S.sz nx).kind ≠ 7) (e2 : ¬ ((peekT S.T S.sz nx).kind = 6 ∧ (peekT S.T S.sz (nx + 1)).kind = 5 ∧ ((peekT S.T S.sz (nx + 1)).text.toList == (⟨#[59]⟩ : ByteArray).toList) = true)) : Rn (partC p q) S nx F G = Rn q S nx F G := by
  unfold Rn partC; rw [if_neg e, if_neg e2]
theorem rstmtB_spec {R : Ps Tree} [Sp R] {d : Nat} (hR : SpS pre post n S d R) (hg : g + 2 ≤ n) (hn : 2000010 ≤ n) : SpS pre post n S (eX g + d + 20) (stmtB g R) := fun k nx K hk hs h => by
  have : Fw R := Sp.fw'
  have hl := hs.len; have hle := hs.le
  have bl : ∀ {nx b} {K : Res → Out}, Fit S nx → UT pre post (blockB g R) S nx b K → callW (En n) (k - 1) 86 [.ptr pre.length 0] (rsg pre post S nx b) K := fun hs h => rblockB_spec hR hg (by omega) hs h
  have ex : ∀ {nx b} {K : Res → Out}, Fit S nx → UT pre post (exprP g) S nx b K → callW (En n) (k - 1) 43 [.ptr pre.length 0, .int .i64 0] (rsg pre post S nx b) K := fun hs h => rexprX hg hn (by omega) hs h
  have co : ∀ {nx b} {K : Res → Out}, Fit S nx → UT pre post (condP g) S nx b K → callW (En n) (k - 1) 88 [.ptr pre.length 0] (rsg pre post S nx b) K := fun hs h => rcond_spec hg hn (by omega) hs h
  have h : Rn (stmtB g R) S nx (fun t m => K ⟨false, nodeV t⟩ (rsg pre post S m none)) (GT pre post S K) := h
  simp only [stmtB, Rn_bind, Rn_peek] at h
  rw [callW_at (by omega) rfl, R12_parser_stmt.eq, cI_of _ (fun K => rfrom_spec (by omega) hs), C_eq, R12_parser_stmt.cut0, cI_of _ (fun K => rkind_spec (by omega) hs)]
  by_cases e7 : (peekT S.T S.sz nx).kind = 7
  · have e : (kindV S nx none == 7) = true := by simp [kindV, e7]
    rw [part_7 e7] at h
    simp only [Rn_pure] at h
    rw [e, bcond_t]
    exact r_nd (b := none) (fun K h => rpart_spec (.inl ⟨rfl, rfl⟩) e7 hs h) hs h fun x m b _ hs h => r_end hs h
  have e : (kindV S nx none == 7) = false := by simp [kindV, e7]
  rw [e, bcond_f, cI_of _ (fun K => rkind_spec (by omega) hs)]
  have rest : ∀ b2 : Bool, ¬ ((peekT S.T S.sz nx).kind = 6 ∧ (peekT S.T S.sz (nx + 1)).kind = 5 ∧ ((peekT S.T S.sz (nx + 1)).text.toList == (⟨#[59]⟩ : ByteArray).toList) = true) →
      C n (callW (En n) (k - 1)) 44 [1, 1, 1] (R12_parser_stmt.S1 pre.length (peekT S.T S.sz nx).at_ b2) (rsg pre post S nx none) (R12_parser_stmt.K1 (callW (En n) (k - 1)) n K) := by
    intro b2 hno
    rw [part_no e7 hno] at h
    rw [C_eq, R12_parser_stmt.cut1]
    refine r_ask hs (fun _ e _ _ => ?_) fun e => ?_
    · rw [bcond_t]
      rw [Rn_is_t e] at h
      exact r_nd (b := none) (fun K h => rvariable_spec hg hn (by omega) hs h) hs h fun x m b _ hs h => r_end hs h
    rw [bcond_f, C_eq, R12_parser_stmt.cut2]
    rw [Rn_is_f (e rfl)] at h
    refine r_ask hs (fun _ e _ _ => ?_) fun e => ?_
    · rw [bcond_t]
      rw [Rn_is_t e] at h
      exact r_nd (b := none) (fun K h => bl hs h) hs h fun x m b _ hs h => r_end hs h
    rw [bcond_f, C_eq, R12_parser_stmt.cut3]
    rw [Rn_is_f (e rfl)] at h
    refine r_skip hs (show UU none nx (Rn (takeC _ _ _) S nx _ _) _ from h) (fun _ hs h => ?_) fun _ h => ?_
    · have h : Rn (returnP g (peekT S.T S.sz nx)) S (nx + 1) _ _ := h
      simp only [returnP, Rn_bind] at h
      refine r_ask hs (fun _ e _ _ => ?_) fun e => ?_
      · show bcond false _ _
        rw [bcond_f]
        rw [Rn_is_t e, Rn_pure] at h
        rw [C_eq, R12_parser_stmt.cut4]
        refine r_want hs (show UU none (nx + 1) (Rn (needP ⟨#[59]⟩) S (nx + 1) _ _) _ from h) fun m b hs h => ?_
        rw [C_eq, R12_parser_stmt.cut6]
        exact r_node hs h fun x _ h => r_end hs h
      · show bcond true _ _
        rw [bcond_t]
        rw [Rn_is_f (e rfl)] at h
        simp only [oneP, Rn_bind, Rn_pure] at h
        refine r_nd (fun K h => ex hs h) hs (show UU none (nx + 1) (Rn (exprP g) S (nx + 1) _ _) _ from h) fun x m b _ hs h => ?_
        rw [C_eq, R12_parser_stmt.cut4]
        refine r_want hs h fun m b hs h => ?_
        rw [C_eq, R12_parser_stmt.cut6]
        exact r_node hs h fun x _ h => r_end hs h
    rw [C_eq, R12_parser_stmt.cut5]
    refine r_skip hs h (fun _ hs h => ?_) fun _ h => ?_
    · simp only [ifP, Rn_bind, Rn_end] at h
      refine r_nd (fun K h => co hs h) hs h fun x m b _ hs h => ?_
      rw [C_eq, R12_parser_stmt.cut7]
      refine r_nd (fun K h => bl hs h) hs h fun y m b _ hs h => ?_
      rw [C_eq, R12_parser_stmt.cut9, cI_of _ (fun K => rlast_spec (by omega) hs), C_eq, R12_parser_stmt.cut12]
      refine r_skip hs h (fun _ hs h => ?_) fun _ h => ?_
      · simp only [oneP, Rn_bind, Rn_pure] at h
        refine r_nd (fun K h => bl hs h) hs h fun z m2 b _ hs h => ?_
        rw [C_eq, R12_parser_stmt.cut15]
        refine r_list (ks := [z]) ?_
        exact r_node hs h fun x _ h => r_end hs h
      · simp only [Rn_pure] at h
        rw [C_eq, R12_parser_stmt.cut15]
        refine r_list (ks := []) ?_
        exact r_node hs h fun x _ h => r_end hs h
    rw [C_eq, R12_parser_stmt.cut8]
    refine r_skip hs h (fun _ hs h => ?_) fun _ h => ?_
    · simp only [whileP, Rn_bind] at h
      refine r_nd (fun K h => co hs h) hs h fun x m b _ hs h => ?_
      rw [C_eq, R12_parser_stmt.cut10]
      refine r_nd (fun K h => bl hs h) hs h fun y m b _ hs h => ?_
      rw [C_eq, R12_parser_stmt.cut13]
      exact r_node hs h fun x _ h => r_end hs h
    simp only [setP, Rn_bind] at h
    rw [C_eq, R12_parser_stmt.cut11]
    refine r_nd (fun K h => ex hs h) hs h fun x m b _ hs h => ?_
    rw [C_eq, R12_parser_stmt.cut14]
    refine r_skip hs h (fun _ hs h => ?_) fun _ h => ?_
    · simp only [Rn_bind] at h
      refine r_nd (fun K h => ex hs h) hs h fun y m2 b _ hs h => ?_
      rw [C_eq, R12_parser_stmt.cut16]
      refine r_want hs h fun m3 b hs h => ?_
      rw [C_eq, R12_parser_stmt.cut18]
      exact r_node hs h fun x _ h => r_end hs h
    · simp only [Rn_bind] at h
      rw [C_eq, R12_parser_stmt.cut17]
      refine r_want hs h fun m3 b hs h => ?_
      rw [C_eq, R12_parser_stmt.cut19]
      exact r_node hs h fun x _ h => r_end hs h
  by_cases e6 : (peekT S.T S.sz nx).kind = 6
  · have e : (kindV S nx none == 6) = true := by simp [kindV, e6]
    have hn0 : nx < S.T.length := peekT_lt (by rw [e6]; decide)
    have hw : IntKind.i64.wrap ((nx : Int) + 1) = ((nx + 1 : Nat) : Int) := wrap_id _ (by omega) (by omega)
    rw [e, bcond_t, rsg_nx, rsg_T, hw]
    by_cases hn1 : nx + 1 < S.T.length
    · have e1 : decide (((nx + 1 : Nat) : Int) < ((S.T.map tokRow).length : Int)) = true := decide_eq_true (by simp; omega)
      rw [e1, bcond_t, rsg_T, rsg_nx, hw, tok_ok hn1, tok_at hn1 S.sz]
      show chk true (chk true (chk true (bcond ((peekT S.T S.sz (nx + 1)).kind == 5) _ _)))
      rw [chk_t, chk_t, chk_t]
      by_cases e5 : (peekT S.T S.sz (nx + 1)).kind = 5
      · have e5' : ((peekT S.T S.sz (nx + 1)).kind == 5) = true := by simp [e5]
        rw [e5', bcond_t, rsg_T, rsg_nx, hw, tok_ok hn1, tok_at hn1 S.sz]
        show chk true (chk true (chk true (bcond ((peekT S.T S.sz (nx + 1)).text.toList == (⟨#[59]⟩ : ByteArray).toList) _ _)))
        rw [chk_t, chk_t, chk_t]
        cases et : ((peekT S.T S.sz (nx + 1)).text.toList == (⟨#[59]⟩ : ByteArray).toList) with
        | true =>
          rw [bcond_t]
          rw [part_6 e6 e5 et] at h
          simp only [Rn_pure] at h
          exact r_nd (b := none) (fun K h => rpart_spec (.inr ⟨rfl, rfl⟩) e6 hs h) hs h fun x m b _ hs h => r_end hs h
        | false =>
          rw [bcond_f]
          exact rest _ fun hh => by rw [hh.2.2] at et; cases et
      · have e5' : ((peekT S.T S.sz (nx + 1)).kind == 5) = false := by simp [e5]
        rw [e5', bcond_f]
        exact rest _ fun hh => e5 hh.2.1
    · have e1 : decide (((nx + 1 : Nat) : Int) < ((S.T.map tokRow).length : Int)) = false := decide_eq_false (by simp; omega)
      rw [e1, bcond_f]
      exact rest _ fun hh => hn1 (peekT_lt (by rw [hh.2.1]; decide))
  · have e : (kindV S nx none == 6) = false := by simp [kindV, e6]
    rw [e, bcond_f]
    exact rest _ fun hh => e6 hh.1
end
/-- The depth of statements. -/
def eS (g : Nat) : Nat → Nat
  | 0 => 0
  | j + 1 => eX g + eS g j + 20
section
variable {pre post : List (List PV)} {S : Src} {n g : Nat}
theorem rknotS_spec (hg : g + 2 ≤ n) (hn : 2000010 ≤ n) : ∀ j, SpS pre post n S (eS g j) (knotS g j)
  | 0 => fun k nx K _ _ h => h.elim
  | j + 1 => rstmtB_spec (rknotS_spec hg hn j) hg hn
theorem rstmt_spec (hg : g + 2 ≤ n) (hn : 2000010 ≤ n) : SpS pre post n S (eX g + eS g g + 20) (stmtP g) := rstmtB_spec (rknotS_spec hg hn g) hg hn
theorem rblock_spec (hg : g + 2 ≤ n) (hn : 2000010 ≤ n) {nx k : Nat} {b : Option Int} {K : Res → Out} (hk : eS g g + 6 ≤ k) (hs : Fit S nx) (h : UT pre post (blockP g) S nx b K) : callW (En n) k 86 [.ptr pre.length 0] (rsg pre post S nx b) K := rblockB_spec (rknotS_spec hg hn g) hg hk hs h
end
end Go.Ev
set_option maxRecDepth 4000
namespace Go.Ev
open PV
def eD (g : Nat) : Nat := eX g + eS g g + 60
section
variable {pre post : List (List PV)} {S : Src} {n g : Nat}
theorem rfun_loop {k : Nat} {K : Res → Out} {whole : Bool} {i2 i4 : Int} {t3 : ByteArray} {F2 : List Tree → Unit → Nat → Prop} {G : Int → Nat → Prop} (hk : 7 ≤ k)
    (H : ∀ (l : List Tree) (nx : Nat) (b : Option Int) (b6 : Bool) (p7 : PV), l.length ≤ 2000000 → Fit S nx → UU b nx (Rn (needP ⟨#[41]⟩) S nx (F2 l) G) G → C n (callW (En n) k) 93 [1, 1, 1, 1, 1, 1, 1, 1] (R12_parser_function.S7 pre.length whole i2 t3 i4 (kidRows l) b6 p7) (rsg pre post S nx b) (R12_parser_function.K7 (callW (En n) k) n K)) :
    ∀ (m j nx : Nat) (b : Option Int) (acc : List Tree) (p6 p7 : PV), 1 ≤ m → (b = none → j + 2 ≤ m ∧ acc.length ≤ nx) → acc.length ≤ 2000000 → Fit S nx → UU b nx (Rn (leftP paramP j acc) S nx (fun l m => Rn (needP ⟨#[41]⟩) S m (F2 l) G) G) G →
    L n (callW (En n) k) 93 [1, 1, 1, 1, 1, 1, 1, 0, 0, 0] (R12_parser_function.S5 pre.length whole i2 t3 i4 (kidRows acc) p6 p7) (rsg pre post S nx b) (R12_parser_function.K5 (callW (En n) k) n K) m
  | 0, j, nx, b, acc, _, _, hm, _, _, _, _ => by omega
  | m + 1, j, nx, b, acc, p6, p7, hm, hb, hl, hs, h => by
    rw [L_succ, R12_parser_function.loop5, rsg_bad]
    cases b with
    | some a =>
      show bcond false _ _
      rw [bcond_f]
      exact H acc nx (some a) _ _ hl hs h
    | none =>
      show bcond true _ _
      rw [bcond_t]
      have h : Rn (leftP paramP j acc) S nx (fun l m => Rn (needP ⟨#[41]⟩) S m (F2 l) G) G := h
      obtain ⟨hj, hl2⟩ := hb rfl
      have hl' : acc.length ≤ 1000000 := by have := hs.le; have := hs.len; omega
      refine r_ask hs (fun _ e _ _ => ?_) fun e => ?_
      · show bcond false _ _
        rw [bcond_f]
        rw [left_close e] at h
        exact H acc nx none _ _ hl hs h
      · have e := e rfl
        show bcond true _ _
        rw [bcond_t, C_eq, R12_parser_function.cut6]
        have tail : ∀ (m2 : Nat) (b' : Option Int) (b6 b7 : Bool), Fit S m2 → (b' = none → acc.length ≤ m2) → UU b' m2 (Rn (rowP paramP j acc) S m2 (fun l m => Rn (needP ⟨#[41]⟩) S m (F2 l) G) G) G →
            C n (callW (En n) k) 93 [1, 1, 1, 1, 1, 1, 1, 0, 0, 0, 1, 0, 1] (R12_parser_function.S8 pre.length whole i2 t3 i4 (kidRows acc) b6 b7) (rsg pre post S m2 b') (R12_parser_function.K8 (callW (En n) k) n m K) := by
          intro m2 b' b6 b7 hs2 hlm h
          obtain ⟨j', hj', h⟩ := r_fuel2 (m := 0) h
          simp only [rowP, Rn_bind] at h
          rw [C_eq, R12_parser_function.cut8]
          refine r_ndS (p := manyOr paramP) (fun K h => rparam_spec hs2 h) hs2 h fun x m3 b3 hb hs3 h => ?_
          rw [app_ok acc hl', kidRows_snoc]
          exact rfun_loop hk H m j' _ _ _ _ _ (by omega) (fun h => ⟨by have := hj' (hb h).1; omega, by have := (hb h).2; have := hlm (hb h).1; simp; omega⟩) (by simp; omega) hs3 (by rw [left_snoc]; exact h)
        cases acc with
        | nil =>
          show bcond false _ _
          rw [bcond_f]
          rw [left_open e] at h
          exact tail nx none _ _ hs (fun _ => Nat.zero_le _) h
        | cons x r =>
          have ed : decide (((kidRows (x :: r)).length : Int) > 0) = true := by rw [kidRows_len]; exact decide_eq_true (by show (0 : Int) < ((r.length + 1 : Nat) : Int); omega)
          rw [ed, bcond_t]
          rw [left_more e (F2 := F2) (fun l m => rfl)] at h
          have hw : UU none nx (Rn (needP ⟨#[44]⟩) S nx (fun _ m => (x :: r).length ≤ m ∧ Rn (rowP paramP j (x :: r)) S m (fun l m => Rn (needP ⟨#[41]⟩) S m (F2 l) G) G) G) G := by
            refine Rn_mono (Rn_fw hs.le h) (fun u m hu => ?_) fun _ _ h => h
            exact ⟨by have := hu.2.1; omega, hu.2.2.2⟩
          refine r_want hs hw fun m2 b' hs2 h => ?_
          cases b' with
          | some a => exact tail m2 (some a) _ _ hs2 (fun h => nomatch h) h
          | none => exact tail m2 none _ _ hs2 (fun _ => h.1) h.2
theorem rfun_spec (hg : g + 2 ≤ n) (hn : 2000010 ≤ n) (whole : Bool) {k nx : Nat} {b : Option Int} {K : Res → Out} (hk : eD g ≤ k) (hs : Fit S nx) (h : UT pre post (funP g whole) S nx b K) : callW (En n) k 93 [.ptr pre.length 0, .bool whole] (rsg pre post S nx b) K := by
  have hd : eD g = eX g + eS g g + 60 := rfl
  simp only [UT, funP, Rn_bind, Rn_peek, Rn_end] at h
  rw [callW_at (by omega) rfl, R12_parser_function.eq, cI_of _ (fun K => rfrom_spec (by omega) hs), C_eq, R12_parser_function.cut0]
  generalize (peekT S.T S.sz nx).at_ = fr at h ⊢
  refine r_want hs h fun m b hs h => ?_
  rw [C_eq, R12_parser_function.cut1]
  refine r_text hs h fun nm m b _ _ hs h => ?_
  rw [C_eq, R12_parser_function.cut2]
  refine r_want hs h fun m b hs h => ?_
  rw [C_eq, R12_parser_function.cut3, cI_of _ (fun K => rlast_spec (by omega) hs), C_eq, R12_parser_function.cut4]
  generalize endT S.T m = e1 at h ⊢
  refine rfun_loop (by omega) (fun l m2 b b6 p7 hl hs h => ?_) n g _ _ [] _ _ (by omega) (fun _ => ⟨by omega, Nat.zero_le _⟩) (Nat.zero_le _) hs h
  rw [C_eq, R12_parser_function.cut7]
  refine r_want hs h fun m3 b hs h => ?_
  rw [C_eq, R12_parser_function.cut9, cI_of _ (fun K => rlast_spec (by omega) hs), C_eq, R12_parser_function.cut10]
  generalize endT S.T m3 = e2 at h ⊢
  have last : ∀ (l2 : List Tree) (nx : Nat) (b : Option Int) (b10 : Bool), l2.length ≤ 2000000 → Fit S nx →
      UU b nx (Rn (if whole = true then (do
        let x ← blockP g
        nodeP 5 nm.text fr [listT e1 l, listT e2 l2, listT (endT S.T nx) [x]]) else (do
        needP ⟨#[59]⟩
        nodeP 5 nm.text fr [listT e1 l, listT e2 l2, listT (endT S.T nx) []])) S nx (fun t m => K ⟨false, nodeV t⟩ (rsg pre post S m none)) (GT pre post S K)) (GT pre post S K) →
      C n (callW (En n) (k - 1)) 93 [1, 1, 1, 1, 1, 1, 1, 1, 1, 1, 1] (R12_parser_function.S11 pre.length whole fr nm.text e1 (kidRows l) (kidRows l2) e2 b6 p7 b10) (rsg pre post S nx b) (R12_parser_function.K11 (callW (En n) (k - 1)) n K) := by
    intro l2 nx b b10 hl2 hs h
    rw [C_eq, R12_parser_function.cut11, cI_of _ (fun K => rlast_spec (by omega) hs), C_eq, R12_parser_function.cut12]
    generalize endT S.T nx = e3 at h ⊢
    cases whole with
    | true =>
      simp only [if_true, Rn_bind] at h
      rw [bcond_t]
      refine r_nd (fun K h => rblock_spec hg hn (by omega) hs h) hs h fun x m b _ hs h => ?_
      rw [C_eq, R12_parser_function.cut13]
      refine r_list (hl := hl) ?_
      refine r_list (hl := hl2) ?_
      refine r_list (ks := [x]) ?_
      exact r_node hs h fun x _ h => r_end hs h
    | false =>
      simp only [Bool.false_eq_true, if_false, Rn_bind] at h
      rw [bcond_f]
      refine r_want hs h fun m b hs h => ?_
      rw [C_eq, R12_parser_function.cut13]
      refine r_list (hl := hl) ?_
      refine r_list (hl := hl2) ?_
      refine r_list (ks := []) ?_
      exact r_node hs h fun x _ h => r_end hs h
  refine r_skip hs h (fun _ hs h => ?_) fun _ h => ?_
  · simp only [oneP, Rn_bind, Rn_pure] at h
    refine r_nd (fun K h => rtyp_spec hs h) hs h fun x m2 b _ hs h => ?_
    rw [kidRows_one]
    exact last [x] _ _ _ (by show 1 ≤ 2000000; omega) hs h
  · simp only [Rn_pure] at h
    exact last [] _ _ _ (Nat.zero_le _) hs h
/-- A member that does not begin with 'func' is a variable, or nothing. -/
theorem member_var {nx : Nat} {F : Tree → Nat → Prop} {G : Int → Nat → Prop} (e : isT S.T nx ⟨#[102, 117, 110, 99]⟩ = false) : Rn (memberP g) S nx F G = Rn (variableP g) S nx F G := by
  unfold memberP
  cases e2 : isT S.T nx ⟨#[118, 97, 114]⟩ with
  | true => rw [Rn_is_t e2]
  | false => simp only [Rn_is_f e2, funP, variableP, Rn_bind, Rn_peek, Rn_need_f e, Rn_need_f e2]
theorem member_fun {nx : Nat} {F : Tree → Nat → Prop} {G : Int → Nat → Prop} (e : isT S.T nx ⟨#[102, 117, 110, 99]⟩ = true) : Rn (memberP g) S nx F G = Rn (funP g true) S nx F G := by
  unfold memberP
  rw [Rn_is_f (isT_excl e (by decide))]
theorem sig_none {nx : Nat} {F : Tree → Nat → Prop} {G : Int → Nat → Prop} (e : isT S.T nx ⟨#[102, 117, 110, 99]⟩ = false) : Rn (funP g false) S nx F G = G (peekT S.T S.sz nx).at_ nx := by
  simp only [funP, Rn_bind, Rn_peek, Rn_need_f e]
/-- The reader of a member. -/
def oneOf (g : Nat) (class_ : Bool) : Ps Tree := if class_ = true then memberP g else funP g false
instance (c : Bool) : Sp (oneOf g c) := by unfold oneOf; cases c <;> (simp only [if_true, Bool.false_eq_true, if_false]; infer_instance)
theorem rbody_loop {k : Nat} {K : Res → Out} {cl : Bool} {i1 i3 i6 : Int} {t2 : ByteArray} {r4 : List (List PV)} {F2 : List Tree → Unit → Nat → Prop} {G : Int → Nat → Prop} (hg : g + 2 ≤ n) (hn : 2000010 ≤ n) (hk : eD g + 1 ≤ k)
    (H : ∀ (l : List Tree) (nx : Nat) (b : Option Int) (b8 : Bool) (p9 p10 p11 : PV), l.length ≤ 2000000 → Fit S nx → UU b nx (Rn (needP ⟨#[125]⟩) S nx (F2 l) G) G → C n (callW (En n) k) 125 [1, 1, 1, 1] (R12_parser_body.S3 pre.length i1 t2 i3 r4 cl i6 (kidRows l) b8 p9 p10 p11) (rsg pre post S nx b) (R12_parser_body.K3 (callW (En n) k) n K)) :
    ∀ (m j nx : Nat) (b : Option Int) (acc : List Tree) (p8 p9 p10 p11 : PV), 1 ≤ m → (b = none → j + 1 ≤ m ∧ acc.length ≤ nx) → acc.length ≤ 2000000 → Fit S nx → UU b nx (Rn (membersP (oneOf g cl) j acc) S nx (fun l m => Rn (needP ⟨#[125]⟩) S m (F2 l) G) G) G →
    L n (callW (En n) k) 125 [1, 1, 1, 0, 0, 0] (R12_parser_body.S1 pre.length i1 t2 i3 r4 cl i6 (kidRows acc) p8 p9 p10 p11) (rsg pre post S nx b) (R12_parser_body.K1 (callW (En n) k) n K) m
  | 0, j, nx, b, acc, _, _, _, _, hm, _, _, _, _ => by omega
  | m + 1, j, nx, b, acc, p8, p9, p10, p11, hm, hb, hl, hs, h => by
    have hd : eD g = eX g + eS g g + 60 := rfl
    rw [L_succ, R12_parser_body.loop1, rsg_bad]
    cases b with
    | some a =>
      show bcond false _ _
      rw [bcond_f]
      exact H acc nx (some a) _ _ _ _ hl hs h
    | none =>
      obtain ⟨hj, hl2⟩ := hb rfl
      have hl' : acc.length ≤ 1000000 := by have := hs.le; have := hs.len; omega
      cases j with
      | zero => exact h.elim
      | succ j =>
        have h : Rn (membersP (oneOf g cl) (j + 1) acc) S nx (fun l m => Rn (needP ⟨#[125]⟩) S m (F2 l) G) G := h
        unfold membersP at h
        show bcond true _ _
        rw [bcond_t]
        refine r_ask hs (fun _ e _ _ => ?_) fun e => ?_
        · show bcond false _ _
          rw [bcond_f]
          rw [Rn_is_t e, Rn_pure] at h
          exact H acc nx none _ _ _ _ hl hs h
        · show bcond true _ _
          rw [bcond_t]
          rw [Rn_is_f (e rfl)] at h
          simp only [Rn_bind, Rn_peek] at h
          rw [C_eq, R12_parser_body.cut2, cI_of _ (fun K => rkind_spec (by omega) hs)]
          have next : ∀ (x : Tree) (m2 : Nat) (b2 : Option Int) (p8 p9 p10 p11 : PV), (b2 = none → nx + 1 ≤ m2) → Fit S m2 → UU b2 m2 (Rn (membersP (oneOf g cl) j (acc ++ [x])) S m2 (fun l m => Rn (needP ⟨#[125]⟩) S m (F2 l) G) G) G →
              L n (callW (En n) k) 125 [1, 1, 1, 0, 0, 0] (R12_parser_body.S1 pre.length i1 t2 i3 r4 cl i6 (kidRows (acc ++ [x])) p8 p9 p10 p11) (rsg pre post S m2 b2) (R12_parser_body.K1 (callW (En n) k) n K) m := fun x m2 b2 p8 p9 p10 p11 hb2 hs2 h =>
            rbody_loop hg hn hk H m j m2 b2 _ _ _ _ _ (by omega) (fun e => ⟨by omega, by have := hb2 e; simp; omega⟩) (by simp; omega) hs2 h
          by_cases e6 : (peekT S.T S.sz nx).kind = 6
          · have e : (kindV S nx none == 6) = true := by simp [kindV, e6]
            rw [if_pos e6, Rn_bind] at h
            rw [e, bcond_t]
            refine r_ndS (b := none) (p := partK 6 25) (fun K h => rpart_spec (.inr ⟨rfl, rfl⟩) e6 hs h) hs h fun x m2 b2 hb2 hs2 h => ?_
            rw [app_ok acc hl', kidRows_snoc]
            exact next x m2 b2 _ _ _ _ (fun e => (hb2 e).2) hs2 h
          have e : (kindV S nx none == 6) = false := by simp [kindV, e6]
          rw [if_neg e6] at h
          rw [e, bcond_f, cI_of _ (fun K => rkind_spec (by omega) hs)]
          by_cases e7 : (peekT S.T S.sz nx).kind = 7
          · have e : (kindV S nx none == 7) = true := by simp [kindV, e7]
            rw [part_7 e7] at h
            rw [e, bcond_t]
            refine r_ndS (b := none) (p := partK 7 26) (fun K h => rpart_spec (.inl ⟨rfl, rfl⟩) e7 hs h) hs h fun x m2 b2 hb2 hs2 h => ?_
            rw [app_ok acc hl', kidRows_snoc]
            exact next x m2 b2 _ _ _ _ (fun e => (hb2 e).2) hs2 h
          have e : (kindV S nx none == 7) = false := by simp [kindV, e7]
          rw [part_no e7 (fun hh => e6 hh.1), Rn_bind] at h
          rw [e, bcond_f]
          refine r_ask hs (fun _ e _ _ => ?_) fun e => ?_
          · rw [bcond_t]
            have h' : Rn (funP g cl) S nx (fun x m => Rn (membersP (oneOf g cl) j (acc ++ [x])) S m (fun l m => Rn (needP ⟨#[125]⟩) S m (F2 l) G) G) G := by
              cases cl with
              | true => rw [← member_fun e]; exact h
              | false => exact h
            refine r_ndS (b := none) (p := funP g cl) (fun K h => rfun_spec hg hn cl (by omega) hs h) hs h' fun x m2 b2 hb2 hs2 h => ?_
            rw [app_ok acc hl', kidRows_snoc]
            exact next x m2 b2 _ _ _ _ (fun e => (hb2 e).2) hs2 h
          · rw [bcond_f]
            cases cl with
            | true =>
              rw [bcond_t]
              have h' : Rn (variableP g) S nx (fun x m => Rn (membersP (oneOf g true) j (acc ++ [x])) S m (fun l m => Rn (needP ⟨#[125]⟩) S m (F2 l) G) G) G := by
                rw [← member_var (e rfl)]; exact h
              refine r_ndS (b := none) (p := variableP g) (fun K h => rvariable_spec hg hn (by omega) hs h) hs h' fun x m2 b2 hb2 hs2 h => ?_
              rw [app_ok acc hl', kidRows_snoc]
              exact next x m2 b2 _ _ _ _ (fun e => (hb2 e).2) hs2 h
            | false =>
              rw [bcond_f, cP, rfail_spec (by omega) hs]
              have h' : Rn (funP g false) S nx (fun x m => Rn (membersP (oneOf g false) j (acc ++ [x])) S m (fun l m => Rn (needP ⟨#[125]⟩) S m (F2 l) G) G) G := h
              rw [sig_none (e rfl)] at h'
              exact rbody_loop hg hn hk H m j nx (some _) acc _ _ _ _ (by omega) (fun e => nomatch e) hl hs h'
theorem rbcopy {k a0 : Nat} {K : Res → Out} {sg : List (List PV)} {i1 i3 i6 : Int} {t2 : ByteArray} {b5 b10 : Bool} {r7 : List (List PV)} {p11 p12 p13 : PV} (l : List Tree) (hl : l.length ≤ 100) :
    ∀ (r : List Tree) (i m : Nat) (acc : List Tree) (p14 : PV), l.drop i = r → i ≤ l.length → r.length < m → acc.length + r.length ≤ 1000 →
    (∀ m p14, 1 ≤ m → L n (callW (En n) k) 125 [1, 1, 1, 1, 1, 1, 0, 1, 0, 0] (R12_parser_body.S5 a0 i1 t2 i3 (kidRows l) b5 i6 r7 (kidRows (acc ++ r)) (l.length : Int) b10 p11 p12 p13 p14) sg (R12_parser_body.K5 (callW (En n) k) n K) m) →
    L n (callW (En n) k) 125 [1, 1, 1, 1, 1, 1, 0, 1, 0, 0] (R12_parser_body.S5 a0 i1 t2 i3 (kidRows l) b5 i6 r7 (kidRows acc) (i : Int) b10 p11 p12 p13 p14) sg (R12_parser_body.K5 (callW (En n) k) n K) m
  | r, i, 0, acc, p15, _, _, hm, _, _ => by omega
  | [], i, m + 1, acc, p15, hr, hi, hm, ha, H => by
    have : i = l.length := by have := List.drop_eq_nil_iff.1 hr; omega
    subst this
    rw [List.append_nil] at H
    exact H (m + 1) p15 (by omega)
  | y :: r, i, m + 1, acc, p15, hr, hi, hm, ha, H => by
    obtain ⟨hil, hy, hr'⟩ := drop_some hr
    have ha' : acc.length ≤ 1000 := by simp at ha; omega
    rw [L_succ, R12_parser_body.loop5]
    have e1 : decide ((i : Int) < (l.length : Int)) = true := decide_eq_true (by omega)
    have e4 : decide ((0 : Int) ≤ (i : Int)) = true := decide_eq_true (by omega)
    have e5 : IntKind.i64.wrap ((i : Int) + 1) = ((i + 1 : Nat) : Int) := wrap_id _ (by omega) (by omega)
    rw [kidRows_len, e1, kidRows_ok, e4, kid_at l i hil, hy, e5]
    show bcond true _ _
    rw [bcond_t]
    show chk (rowsOk 5 (kidRows acc) && decide ((kidRows acc).length + 1 ≤ mostL)) (L n _ 125 _ (R12_parser_body.S5 _ _ _ _ _ _ _ _ (kidRows acc ++ [[.int .i64 y.kind, .str y.text, .int .i64 y.at_, .int .i64 y.end_, .list false (kidRows y.kids)]]) _ _ _ _ _ _) _ _ _)
    rw [app_okL acc (by omega), kidRows_snoc]
    exact rbcopy l hl r (i + 1) m _ _ hr' (by omega) (by simp at hm; omega) (by simp at ha ⊢; omega) (by rw [List.append_assoc]; exact H)
theorem r_body {k nx : Nat} {b : Option Int} {K : Res → Out} {cl : Bool} {kd fr : Int} {nm : ByteArray} {ks : List Tree} (hg : g + 2 ≤ n) (hn : 2000010 ≤ n) (hk : eD g + 2 ≤ k) (hks : ks.length ≤ 100) (hs : Fit S nx)
    (h : UU b nx (Rn (membersP (oneOf g cl) g []) S nx (fun l m => Rn (needP ⟨#[125]⟩) S m (fun _ m => Rn (nodeP kd nm fr (ks ++ [listT (endT S.T nx) l])) S m (fun t m => K ⟨false, nodeV t⟩ (rsg pre post S m none)) (GT pre post S K)) (GT pre post S K)) (GT pre post S K)) (GT pre post S K)) :
    callW (En n) k 125 [.ptr pre.length 0, .int .i64 kd, .str nm, .int .i64 fr, .list false (kidRows ks), .bool cl] (rsg pre post S nx b) K := by
  have hd : eD g = eX g + eS g g + 60 := rfl
  rw [callW_at (by omega) rfl, R12_parser_body.eq, cI_of _ (fun K => rlast_spec (by omega) hs), C_eq, R12_parser_body.cut0]
  generalize endT S.T nx = e1 at h ⊢
  refine rbody_loop hg hn (by omega) (fun l nx b b8 p9 p10 p11 hl hs h => ?_) n g nx b [] _ _ _ _ (by omega) (fun _ => ⟨by omega, Nat.zero_le _⟩) (Nat.zero_le _) hs h
  rw [C_eq, R12_parser_body.cut3]
  refine r_want hs h fun m b hs h => ?_
  rw [C_eq, R12_parser_body.cut4]
  show L n _ 125 _ (R12_parser_body.S5 _ _ _ _ _ _ _ _ (kidRows []) ((0 : Nat) : Int) _ _ _ _ _) _ _ _
  refine rbcopy ks hks ks 0 n [] _ rfl (Nat.zero_le _) (by omega) (by simp; omega) fun m5 p14 hm5 => ?_
  obtain ⟨m5, rfl⟩ : ∃ j, m5 = j + 1 := ⟨m5 - 1, by omega⟩
  rw [L_succ, R12_parser_body.loop5]
  have ed : decide ((ks.length : Int) < (ks.length : Int)) = false := decide_eq_false (by omega)
  rw [kidRows_len, ed, bcond_f]
  refine r_list (hl := hl) ?_
  rw [List.nil_append, app_okL ks (by omega), kidRows_snoc, C_eq, R12_parser_body.cut6]
  exact r_node hs h fun x _ h => r_end hs h
theorem rclass_spec (hg : g + 2 ≤ n) (hn : 2000010 ≤ n) {k nx : Nat} {b : Option Int} {K : Res → Out} (hk : eD g + 10 ≤ k) (hs : Fit S nx) (h : UT pre post (classP g) S nx b K) : callW (En n) k 91 [.ptr pre.length 0] (rsg pre post S nx b) K := by
  have hd : eD g = eX g + eS g g + 60 := rfl
  simp only [UT, classP, bodyP, Rn_bind, Rn_peek, Rn_end, Rn_pure] at h
  rw [callW_at (by omega) rfl, R12_parser_class.eq, cI_of _ (fun K => rfrom_spec (by omega) hs), C_eq, R12_parser_class.cut0]
  generalize (peekT S.T S.sz nx).at_ = fr at h ⊢
  refine r_want hs h fun m b hs h => ?_
  rw [C_eq, R12_parser_class.cut1]
  refine r_text hs h fun nm m b _ _ hs h => ?_
  rw [C_eq, R12_parser_class.cut2, cI_of _ (fun K => rlast_spec (by omega) hs), C_eq, R12_parser_class.cut3]
  generalize endT S.T m = e1 at h ⊢
  have tail : ∀ (l : List Tree) (nx : Nat) (b : Option Int) (b5 : Bool), l.length ≤ 2000000 → Fit S nx →
      UU b nx (Rn (takeC ⟨#[105, 109, 112, 108, 101, 109, 101, 110, 116, 115]⟩ (rowP typP g []) (pure [])) S nx (fun l2 m2 => Rn (needP ⟨#[123]⟩) S m2 (fun _ m3 => Rn (membersP (memberP g) g []) S m3 (fun l3 m4 => Rn (needP ⟨#[125]⟩) S m4 (fun _ m5 => Rn (nodeP 3 nm.text fr [listT e1 l, listT (endT S.T nx) l2, listT (endT S.T m3) l3]) S m5 (fun t m => K ⟨false, nodeV t⟩ (rsg pre post S m none)) (GT pre post S K)) (GT pre post S K)) (GT pre post S K)) (GT pre post S K)) (GT pre post S K)) (GT pre post S K) →
      C n (callW (En n) (k - 1)) 91 [1, 1, 1, 1, 1, 1, 1] (R12_parser_class.S4 pre.length fr nm.text e1 (kidRows l) b5) (rsg pre post S nx b) (R12_parser_class.K4 (callW (En n) (k - 1)) n K) := by
    intro l nx b b5 hl hs h
    rw [C_eq, R12_parser_class.cut4, cI_of _ (fun K => rlast_spec (by omega) hs), C_eq, R12_parser_class.cut5]
    generalize endT S.T nx = e2 at h ⊢
    have last : ∀ (l2 : List Tree) (nx : Nat) (b : Option Int) (o b8 : Bool), l2.length ≤ 2000000 → Fit S nx →
        UU b nx (Rn (needP ⟨#[123]⟩) S nx (fun _ m3 => Rn (membersP (memberP g) g []) S m3 (fun l3 m4 => Rn (needP ⟨#[125]⟩) S m4 (fun _ m5 => Rn (nodeP 3 nm.text fr [listT e1 l, listT e2 l2, listT (endT S.T m3) l3]) S m5 (fun t m => K ⟨false, nodeV t⟩ (rsg pre post S m none)) (GT pre post S K)) (GT pre post S K)) (GT pre post S K)) (GT pre post S K)) (GT pre post S K) →
        C n (callW (En n) (k - 1)) 91 [1, 1, 1, 1, 1, 1, 1, 1, 1] (R12_parser_class.S6 pre.length fr nm.text e1 (kidRows l) (.list o (kidRows l2)) e2 b5 b8) (rsg pre post S nx b) (R12_parser_class.K6 (callW (En n) (k - 1)) n K) := by
      intro l2 nx b o b8 hl2 hs h
      rw [C_eq, R12_parser_class.cut6]
      refine r_want hs h fun m b hs h => ?_
      rw [C_eq, R12_parser_class.cut7]
      refine r_list (hl := hl) ?_
      show cNd _ 90 [.list false (kidRows l2), _] _ _ _
      refine r_list (hl := hl2) ?_
      have hr : [[.int .i64 (listT e1 l).kind, .str (listT e1 l).text, .int .i64 (listT e1 l).at_, .int .i64 (listT e1 l).end_, .list false (kidRows (listT e1 l).kids)], [.int .i64 (listT e2 l2).kind, .str (listT e2 l2).text, .int .i64 (listT e2 l2).at_, .int .i64 (listT e2 l2).end_, .list false (kidRows (listT e2 l2).kids)]] = kidRows [listT e1 l, listT e2 l2] := by
        simp only [kidRows, nodeRow_eq]
      rw [hr]
      refine r_nd (p := do let l3 ← membersP (memberP g) g []; needP ⟨#[125]⟩; nodeP 3 nm.text fr ([listT e1 l, listT e2 l2] ++ [listT (endT S.T m) l3])) (fun K h => ?_) hs (by simp only [Rn_bind]; exact h) fun x m b _ hs h => r_end hs h
      simp only [Rn_bind] at h
      exact r_body (cl := true) hg hn (by omega) (by show 2 ≤ 100; omega) hs h
    refine r_skip hs h (fun _ hs h => ?_) fun _ h => ?_
    · exact r_types hs h fun l2 m b hl2 hs h => last l2 m b _ _ hl2 hs h
    · simp only [Rn_pure] at h
      exact last [] _ _ _ _ (Nat.zero_le _) hs h
  refine r_skip hs h (fun _ hs h => ?_) fun _ h => ?_
  · simp only [oneP, Rn_bind, Rn_pure] at h
    refine r_nd (fun K h => rtyp_spec hs h) hs h fun x m2 b _ hs h => ?_
    rw [kidRows_one]
    exact tail [x] _ _ _ (by show 1 ≤ 2000000; omega) hs h
  · simp only [Rn_pure] at h
    exact tail [] _ _ _ (Nat.zero_le _) hs h
theorem riface_spec (hg : g + 2 ≤ n) (hn : 2000010 ≤ n) {k nx : Nat} {b : Option Int} {K : Res → Out} (hk : eD g + 10 ≤ k) (hs : Fit S nx) (h : UT pre post (ifaceP g) S nx b K) : callW (En n) k 92 [.ptr pre.length 0] (rsg pre post S nx b) K := by
  have hd : eD g = eX g + eS g g + 60 := rfl
  simp only [UT, ifaceP, bodyP, Rn_bind, Rn_peek, Rn_end, Rn_pure] at h
  rw [callW_at (by omega) rfl, R12_parser_interfaces.eq, cI_of _ (fun K => rfrom_spec (by omega) hs), C_eq, R12_parser_interfaces.cut0]
  generalize (peekT S.T S.sz nx).at_ = fr at h ⊢
  refine r_want hs h fun m b hs h => ?_
  rw [C_eq, R12_parser_interfaces.cut1]
  refine r_text hs h fun nm m b _ _ hs h => ?_
  rw [C_eq, R12_parser_interfaces.cut2, cI_of _ (fun K => rlast_spec (by omega) hs), C_eq, R12_parser_interfaces.cut3]
  generalize endT S.T m = e1 at h ⊢
  have last : ∀ (l : List Tree) (nx : Nat) (b : Option Int) (o b5 : Bool), l.length ≤ 2000000 → Fit S nx →
      UU b nx (Rn (needP ⟨#[123]⟩) S nx (fun _ m3 => Rn (membersP (funP g false) g []) S m3 (fun l3 m4 => Rn (needP ⟨#[125]⟩) S m4 (fun _ m5 => Rn (nodeP 4 nm.text fr [listT e1 l, listT (endT S.T m3) l3]) S m5 (fun t m => K ⟨false, nodeV t⟩ (rsg pre post S m none)) (GT pre post S K)) (GT pre post S K)) (GT pre post S K)) (GT pre post S K)) (GT pre post S K) →
      C n (callW (En n) (k - 1)) 92 [1, 1, 1, 1, 1, 1, 1] (R12_parser_interfaces.S4 pre.length fr nm.text e1 (.list o (kidRows l)) b5) (rsg pre post S nx b) (R12_parser_interfaces.K4 (callW (En n) (k - 1)) n K) := by
    intro l nx b o b5 hl hs h
    rw [C_eq, R12_parser_interfaces.cut4]
    refine r_want hs h fun m b hs h => ?_
    rw [C_eq, R12_parser_interfaces.cut5]
    show cNd _ 90 [.list false (kidRows l), _] _ _ _
    refine r_list (hl := hl) ?_
    rw [kidRows_one]
    refine r_nd (p := do let l3 ← membersP (funP g false) g []; needP ⟨#[125]⟩; nodeP 4 nm.text fr ([listT e1 l] ++ [listT (endT S.T m) l3])) (fun K h => ?_) hs (by simp only [Rn_bind]; exact h) fun x m b _ hs h => r_end hs h
    simp only [Rn_bind] at h
    exact r_body (cl := false) hg hn (by omega) (by show 1 ≤ 100; omega) hs h
  refine r_skip hs h (fun _ hs h => ?_) fun _ h => ?_
  · exact r_types hs h fun l2 m b hl2 hs h => last l2 m b _ _ hl2 hs h
  · simp only [Rn_pure] at h
    exact last [] _ _ _ _ (Nat.zero_le _) hs h
theorem var_or_fail {nx : Nat} {F : Tree → Nat → Prop} {G : Int → Nat → Prop} : Rn (isC ⟨#[118, 97, 114]⟩ (variableP g) failP) S nx F G = Rn (variableP g) S nx F G := by
  cases e : isT S.T nx ⟨#[118, 97, 114]⟩ with
  | true => rw [Rn_is_t e]
  | false => simp only [Rn_is_f e, variableP, Rn_bind, Rn_peek, Rn_need_f e]; rfl
theorem rdecl_spec (hg : g + 2 ≤ n) (hn : 2000010 ≤ n) {k nx : Nat} {K : Res → Out} (hk : eD g + 12 ≤ k) (hs : Fit S nx) (h : UT pre post (declP g) S nx none K) : callW (En n) k 45 [.ptr pre.length 0] (rsg pre post S nx none) K := by
  have hd : eD g = eX g + eS g g + 60 := rfl
  have i1 : Fw (classP g) := Sp.fw'
  have i2 : Fw (ifaceP g) := Sp.fw'
  have h : Rn (declP g) S nx (fun t m => K ⟨false, nodeV t⟩ (rsg pre post S m none)) (GT pre post S K) := h
  unfold declP at h
  rw [callW_at (by omega) rfl, R12_parser_decl.eq]
  refine r_ask hs (fun _ e _ _ => ?_) fun e => ?_
  · rw [bcond_t]
    rw [Rn_is_t e] at h
    exact r_nd (b := none) (fun K h => rclass_spec hg hn (by omega) hs h) hs h fun x m b _ hs h => r_end hs h
  rw [bcond_f, C_eq, R12_parser_decl.cut0]
  rw [Rn_is_f (e rfl)] at h
  refine r_ask hs (fun _ e _ _ => ?_) fun e => ?_
  · rw [bcond_t]
    rw [Rn_is_t e] at h
    exact r_nd (b := none) (fun K h => riface_spec hg hn (by omega) hs h) hs h fun x m b _ hs h => r_end hs h
  rw [bcond_f, C_eq, R12_parser_decl.cut1]
  rw [Rn_is_f (e rfl)] at h
  refine r_ask hs (fun _ e _ _ => ?_) fun e => ?_
  · rw [bcond_t]
    rw [Rn_is_t e] at h
    exact r_nd (b := none) (fun K h => rfun_spec hg hn true (by omega) hs h) hs h fun x m b _ hs h => r_end hs h
  rw [bcond_f]
  rw [Rn_is_f (e rfl), var_or_fail] at h
  exact r_nd (b := none) (fun K h => rvariable_spec hg hn (by omega) hs h) hs h fun x m b _ hs h => r_end hs h
theorem rdecls_loop {k : Nat} {K : Res → Out} {p3 p4 : PV} {b5 : Bool} (hg : g + 2 ≤ n) (hn : 2000010 ≤ n) (hk : eD g + 13 ≤ k) : ∀ (m j nx : Nat) (b : Option Int) (acc : List Tree) (p6 : PV), 1 ≤ m → (b = none → j + 1 ≤ m ∧ acc.length ≤ nx) → Fit S nx →
    UU b nx (Rn (declsP g j acc) S nx (fun l m => K ⟨false, nodeV (.mk 1 ⟨#[]⟩ 0 S.sz l)⟩ (rsg pre post S m none)) (GT pre post S K)) (GT pre post S K) →
    L n (callW (En n) k) 35 [1, 1, 1, 0, 0, 0] (R12_parser_module.S4 pre.length S.sz (kidRows acc) p3 p4 b5 p6) (rsg pre post S nx b) (R12_parser_module.K4 (callW (En n) k) n K) m
  | 0, j, nx, b, acc, _, hm, _, _, _ => by omega
  | m + 1, j, nx, b, acc, p6, hm, hb, hs, h => by
    rw [L_succ, R12_parser_module.loop4, rsg_bad]
    cases b with
    | some a => exact h hs.le (.mk 1 ⟨#[]⟩ 0 S.sz acc)
    | none =>
      obtain ⟨hj, hl⟩ := hb rfl
      have hl' : acc.length ≤ 1000000 := by have := hs.le; have := hs.len; omega
      cases j with
      | zero => exact h.elim
      | succ j =>
        have h : Rn (declsP g (j + 1) acc) S nx (fun l m => K ⟨false, nodeV (.mk 1 ⟨#[]⟩ 0 S.sz l)⟩ (rsg pre post S m none)) (GT pre post S K) := h
        show bcond true _ _
        rw [bcond_t, rsg_nx, rsg_T, List.length_map]
        unfold declsP Rn moreC at h
        by_cases hc : nx < S.T.length
        · rw [if_pos hc] at h
          have h : Rn (declP g >>= fun x => declsP g j (acc ++ [x])) S nx (fun l m => K ⟨false, nodeV (.mk 1 ⟨#[]⟩ 0 S.sz l)⟩ (rsg pre post S m none)) (GT pre post S K) := h
          have e : decide ((nx : Int) < (S.T.length : Int)) = true := decide_eq_true (by omega)
          rw [Rn_bind] at h
          rw [e, bcond_t]
          refine r_ndS (b := none) (p := declP g) (fun K h => rdecl_spec hg hn (by omega) hs h) hs h fun x m2 b2 hb2 hs2 h => ?_
          rw [app_ok acc hl', kidRows_snoc]
          exact rdecls_loop hg hn hk m j _ _ _ _ (by omega) (fun e => ⟨by omega, by have := (hb2 e).2; simp; omega⟩) hs2 h
        · rw [if_neg hc] at h
          have e : decide ((nx : Int) < (S.T.length : Int)) = false := decide_eq_false (by omega)
          rw [e, bcond_f]
          exact h
theorem rimports_loop {k : Nat} {K : Res → Out} (hg : g + 2 ≤ n) (hn : 2000010 ≤ n) (hk : eD g + 13 ≤ k) : ∀ (m j nx : Nat) (b : Option Int) (acc : List Tree) (p3 p4 p5 : PV), 1 ≤ m → (b = none → j + 1 ≤ m ∧ acc.length ≤ nx) → Fit S nx →
    UU b nx (Rn (importsP j acc) S nx (fun l m => Rn (declsP g g l) S m (fun l m => K ⟨false, nodeV (.mk 1 ⟨#[]⟩ 0 S.sz l)⟩ (rsg pre post S m none)) (GT pre post S K)) (GT pre post S K)) (GT pre post S K) →
    L n (callW (En n) k) 35 [1, 1, 0, 0, 0] (R12_parser_module.S0 pre.length S.sz (kidRows acc) p3 p4 p5) (rsg pre post S nx b) (R12_parser_module.K0 (callW (En n) k) n K) m
  | 0, j, nx, b, acc, _, _, _, hm, _, _, _ => by omega
  | m + 1, j, nx, b, acc, p3, p4, p5, hm, hb, hs, h => by
    rw [L_succ, R12_parser_module.loop0]
    refine r_ask hs (fun hbn e _ _ => ?_) fun e => ?_
    · subst hbn
      obtain ⟨hj, hl⟩ := hb rfl
      have hl' : acc.length ≤ 1000000 := by have := hs.le; have := hs.len; omega
      cases j with
      | zero => exact h.elim
      | succ j =>
        have h : Rn (importsP (j + 1) acc) S nx (fun l m => Rn (declsP g g l) S m (fun l m => K ⟨false, nodeV (.mk 1 ⟨#[]⟩ 0 S.sz l)⟩ (rsg pre post S m none)) (GT pre post S K)) (GT pre post S K) := h
        unfold importsP at h
        rw [Rn_is_t e] at h
        simp only [importP, Rn_bind, Rn_peek, Rn_need_t e] at h
        have hs' := hs.mv (isT_lt e)
        have hw : IntKind.i64.wrap ((nx : Int) + 1) = ((nx + 1 : Nat) : Int) := wrap_id _ (by omega) (by have := hs.le; have := hs.len; omega)
        rw [bcond_t, C_eq, R12_parser_module.cut1, cI_of _ (fun K => rfrom_spec (by omega) hs), C_eq, R12_parser_module.cut3, rsg_nx, hw, rsg_set]
        have h : Rn (kindP 1) S (nx + 1) (fun nm m => Rn (needP ⟨#[59]⟩) S m (fun _ m3 => nx + 1 ≤ m3 ∧ Rn (nodeP 2 nm.text (peekT S.T S.sz nx).at_ []) S m3 (fun x m => Rn (importsP j (acc ++ [x])) S m (fun l m => Rn (declsP g g l) S m (fun l m => K ⟨false, nodeV (.mk 1 ⟨#[]⟩ 0 S.sz l)⟩ (rsg pre post S m none)) (GT pre post S K)) (GT pre post S K)) (GT pre post S K)) (GT pre post S K)) (GT pre post S K) := by
          refine Rn_mono (Rn_fw hs'.le h) (fun nm m hq => ?_) fun _ _ h => h
          obtain ⟨_, hq1, hq2, hq⟩ := hq
          refine Rn_mono (Rn_fw hq2 hq) (fun u m3 hu => ?_) fun _ _ h => h
          exact ⟨by have := hu.2.1; omega, hu.2.2.2⟩
        refine r_text hs' (show UU none (nx + 1) (Rn (kindP 1) S (nx + 1) _ _) _ from h) fun nm m2 b2 _ hq hs2 h => ?_
        rw [C_eq, R12_parser_module.cut5]
        refine r_want hs2 h fun m3 b3 hs3 h => ?_
        have hm3 : b3 = none → nx + 1 ≤ m3 := fun e => by subst e; exact h.1
        have h : UU b3 m3 (Rn (nodeP 2 nm.text (peekT S.T S.sz nx).at_ []) S m3 (fun x m => Rn (importsP j (acc ++ [x])) S m (fun l m => Rn (declsP g g l) S m (fun l m => K ⟨false, nodeV (.mk 1 ⟨#[]⟩ 0 S.sz l)⟩ (rsg pre post S m none)) (GT pre post S K)) (GT pre post S K)) (GT pre post S K)) (GT pre post S K) := by
          cases b3 with
          | some a => exact h
          | none => exact h.2
        rw [C_eq, R12_parser_module.cut6]
        refine r_node hs3 h fun x _ h => ?_
        rw [app_ok acc hl', kidRows_snoc]
        exact rimports_loop hg hn hk m j _ _ _ _ _ _ (by omega) (fun e => ⟨by omega, by have := hm3 e; simp; omega⟩) hs3 h
    · have h' : UU b nx (Rn (declsP g g acc) S nx (fun l m => K ⟨false, nodeV (.mk 1 ⟨#[]⟩ 0 S.sz l)⟩ (rsg pre post S m none)) (GT pre post S K)) (GT pre post S K) := by
        cases b with
        | some a => exact h
        | none => cases j with
          | zero => exact h.elim
          | succ j =>
            have h : Rn (importsP (j + 1) acc) S nx (fun l m => Rn (declsP g g l) S m (fun l m => K ⟨false, nodeV (.mk 1 ⟨#[]⟩ 0 S.sz l)⟩ (rsg pre post S m none)) (GT pre post S K)) (GT pre post S K) := h
            unfold importsP at h
            rw [Rn_is_f (e rfl), Rn_pure] at h
            exact h
      rw [bcond_f, C_eq, R12_parser_module.cut2]
      exact rdecls_loop hg hn hk n g _ _ _ _ (by omega) (fun e => ⟨by omega, (hb e).2⟩) hs h'
theorem rmodule_spec (hg : g + 2 ≤ n) (hn : 2000010 ≤ n) {k nx : Nat} {K : Res → Out} (hk : eD g + 14 ≤ k) (hs : Fit S nx) (h : UT pre post (moduleP g) S nx none K) : callW (En n) k 35 [.ptr pre.length 0] (rsg pre post S nx none) K := by
  have h : Rn (moduleP g) S nx (fun t m => K ⟨false, nodeV t⟩ (rsg pre post S m none)) (GT pre post S K) := h
  simp only [moduleP, Rn_bind] at h
  rw [callW_at (by omega) rfl, R12_parser_module.eq, rsg_sz]
  exact rimports_loop hg hn (by omega) n g nx none [] _ _ _ (by omega) (fun _ => ⟨by omega, Nat.zero_le _⟩) hs h
end
end Go.Ev
