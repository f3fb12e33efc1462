import Derived.Test.YtlnoadnejefmoaaTokQ
import Derived.Test.YtlnoadnejefmoaaShelf
import Derived.Lib.Join
set_option linter.unusedVariables false
set_option linter.unusedSimpArgs false
namespace Go.Proofs.Ytlnoadnejefmoaa
open Go.RowKit Go.Proofs.YtlnoadnejefmoaaW.PrintWords

def ne7 (k : Int) : Prop := (k == 1) = false ∧ (k == 2) = false ∧ (k == 3) = false ∧ (k == 4) = false ∧ (k == 5) = false ∧ (k == 6) = false ∧ (k == 7) = false
set_option maxRecDepth 100000 in
set_option maxHeartbeats 4000000 in
theorem tok_text_no (s : ByteArray) (k a b : Int) (w : World) (hs : s.size ≤ 1000000000) (hk : ne7 k) :
    Calls Try.prog 46 #[.agg #[.int .i64 k, .string s, .int .i64 a, .int .i64 b]] w fun e w' => OptRes none e ∧ Below w.heap.size w w' := by
  obtain ⟨n1, n2, n3, n4, n5, n6, n7⟩ := hk
  cases hn : nameB s
  · go_enter Try.func46, Try.ntmps46
    go_wp2_with (first
      | (go_at_call 63; refine (tok_name _ _ (by omega)).mono ?_; rintro e w1 ⟨rfl, hb⟩; obtain ⟨h1, hb⟩ := keep1 hb; obtain ⟨y0, y1, y2, y3, g0, g1, g2, g3⟩ := tok4 h1))
    go_ret2
    exact ⟨OptRes_none _, hb⟩
  · go_enter Try.func46, Try.ntmps46
    go_wp2_with (first
      | (go_at_call 63; refine (tok_name _ _ (by omega)).mono ?_; rintro e w1 ⟨rfl, hb⟩; obtain ⟨h1, hb⟩ := keep1 hb; obtain ⟨y0, y1, y2, y3, g0, g1, g2, g3⟩ := tok4 h1))
    go_ret2
    exact ⟨OptRes_none _, hb⟩
theorem textO_no (k : Int) (l : List UInt8) (h : ¬ (k = 1 ∨ k = 2 ∨ k = 3 ∨ k = 4 ∨ k = 5 ∨ k = 6 ∨ k = 7)) : textO k l = none := by
  unfold textO
  rw [if_neg (by omega), if_neg (by omega), if_neg (by omega), if_neg (by omega), if_neg (by omega), if_neg (by omega), if_neg (by omega)]
theorem tok_text (k : Int) (s : ByteArray) (a b : Int) (w : World) (hs : s.size ≤ 1000000000) :
    Calls Try.prog 46 #[.agg #[.int .i64 k, .string s, .int .i64 a, .int .i64 b]] w fun e w' => OptRes (textO k s.data.toList) e ∧ Below w.heap.size w w' := by
  by_cases h : k = 1 ∨ k = 2 ∨ k = 3 ∨ k = 4 ∨ k = 5 ∨ k = 6 ∨ k = 7
  · rcases h with rfl | rfl | rfl | rfl | rfl | rfl | rfl
    · exact tok_text_1 s a b w hs
    · exact tok_text_2 s a b w hs
    · exact tok_text_3 s a b w hs
    · exact tok_text_4 s a b w hs
    · exact tok_text_5 s a b w hs
    · exact tok_text_6 s a b w hs
    · exact tok_text_7 s a b w hs
  · rw [textO_no k _ h]
    exact tok_text_no s k a b w hs ⟨by rw [beq_eq_false_iff_ne]; omega, by rw [beq_eq_false_iff_ne]; omega, by rw [beq_eq_false_iff_ne]; omega, by rw [beq_eq_false_iff_ne]; omega, by rw [beq_eq_false_iff_ne]; omega, by rw [beq_eq_false_iff_ne]; omega, by rw [beq_eq_false_iff_ne]; omega⟩

theorem tok_text_is (k : Int) (s : ByteArray) (a b : Int) (o : List UInt8) (w : World) (hs : s.size ≤ 1000000000) (h : textO k s.data.toList = some o) :
    Calls Try.prog 46 #[.agg #[.int .i64 k, .string s, .int .i64 a, .int .i64 b]] w fun e w' => e = .returned (.tuple #[.string (tx o), .bool true]) ∧ Below w.heap.size w w' := by
  refine (tok_text k s a b w hs).mono ?_
  rintro e w' ⟨⟨t, c, rfl, h1, _⟩, hb⟩
  obtain ⟨rfl, rfl⟩ := h1 o h
  exact ⟨rfl, hb⟩
theorem tok_text_not (k : Int) (s : ByteArray) (a b : Int) (w : World) (hs : s.size ≤ 1000000000) (h : textO k s.data.toList = none) :
    Calls Try.prog 46 #[.agg #[.int .i64 k, .string s, .int .i64 a, .int .i64 b]] w fun e w' => (∃ t, e = .returned (.tuple #[.string t, .bool false])) ∧ Below w.heap.size w w' := by
  refine (tok_text k s a b w hs).mono ?_
  rintro e w' ⟨⟨t, c, rfl, _, h1⟩, hb⟩
  obtain rfl := h1 h
  exact ⟨⟨_, rfl⟩, hb⟩

/-! ### How long what is printed is -/
theorem isKwL_len (l : List UInt8) (h : isKwL l = true) : l.length ≤ 10 := by
  unfold isKwL at h
  rw [List.any_eq_true] at h
  obtain ⟨x, hx, he⟩ := h
  have he := beq_iff_eq.1 he
  subst he
  have : ∀ y ∈ kwL, y.length ≤ 10 := by decide
  exact this _ hx
theorem isMarkL_len (l : List UInt8) (h : isMarkL l = true) : l.length ≤ 2 := by
  unfold isMarkL at h
  rw [List.any_eq_true] at h
  obtain ⟨x, hx, he⟩ := h
  have he := beq_iff_eq.1 he
  subst he
  have : ∀ y ∈ markL, y.length ≤ 2 := by decide
  exact this _ hx
theorem shortL_len (l : List UInt8) (h : shortL l = true) : l.length ≤ 24 := by
  unfold shortL at h
  rw [Bool.and_eq_true, decide_eq_true_eq] at h
  exact h.2
theorem intOk_len (l : List UInt8) (h : intOk l = true) : l.length ≤ 9 := by
  unfold intOk at h
  rw [Bool.and_eq_true, Bool.and_eq_true, decide_eq_true_eq, decide_eq_true_eq] at h
  obtain ⟨⟨_, h1⟩, h2⟩ := h
  unfold intR at h1 h2
  split at h1
  · simp [RT.bad] at h1
  · rename_i hx
    rw [if_neg hx] at h2
    split at h1
    · simp [RT.bad] at h1
    · rename_i hy
      rw [if_neg hy] at h2
      simp only at h2
      have := congrArg List.length h2
      rw [List.length_take] at this
      omega
theorem textO_len (k : Int) (l o : List UInt8) (h : textO k l = some o) : o.length ≤ 122 := by
  unfold textO at h
  split at h
  · split at h
    · rename_i hx
      cases h
      have := shortL_len _ hx
      omega
    · simp at h
  split at h
  · split at h
    · rename_i hx
      cases h
      have := isKwL_len _ hx
      omega
    · simp at h
  split at h
  · split at h
    · rename_i hx
      cases h
      have := intOk_len _ hx
      omega
    · simp at h
  split at h
  · unfold quoteO at h
    split at h
    · simp at h
    · obtain ⟨e, he, rfl⟩ := Option.map_eq_some_iff.1 h
      have := escO_len _ _ he
      simp
      omega
  split at h
  · split at h
    · rename_i hx
      cases h
      have := isMarkL_len _ hx
      omega
    · simp at h
  split at h
  · split at h
    · rename_i hx
      cases h
      have := shortL_len _ hx
      simp
      omega
    · simp at h
  split at h
  · split at h
    · rename_i hx
      cases h
      have := shortL_len _ hx
      simp
      omega
    · simp at h
  · simp at h

theorem joinL_len (N : Nat) : ∀ ls : List (List UInt8), (∀ l ∈ ls, l.length ≤ N) → (joinL ls).length ≤ ls.length * (N + 1)
  | [], _ => by simp [joinL]
  | [a], h => by
    have := h a (by simp)
    simp [joinL]
    omega
  | a :: b :: t, h => by
    have h1 := h a (by simp)
    have ih := joinL_len N (b :: t) (fun l hl => h l (by simp [hl]))
    simp only [joinL, List.length_append, List.length_cons] at ih ⊢
    rw [Nat.succ_mul]
    omega
theorem joinL_lib : ∀ ls : List (List UInt8), Lib.join ls [32] = joinL ls
  | [] => rfl
  | [a] => by simp [Lib.join, joinL, List.intercalate]
  | a :: b :: t => by
    have ih := joinL_lib (b :: t)
    unfold Lib.join at ih ⊢
    rw [show joinL (a :: b :: t) = a ++ 32 :: joinL (b :: t) from rfl, ← ih]
    simp [List.intercalate]
theorem outs_cons_some (x : Tok) (t : List Tok) (a : List UInt8) (h : x.out = some a) : outs (x :: t) = (outs t).map (a :: ·) := by
  rw [outs, h]
  cases outs t <;> rfl
theorem outs_cons_none (x : Tok) (t : List Tok) (h : x.out = none) : outs (x :: t) = none := by
  rw [outs, h]
theorem drop_getD (xs : List Tok) (k : Nat) (h : k < xs.length) : xs.drop k = xs.getD k tok0 :: xs.drop (k + 1) := by
  rw [List.drop_eq_getElem_cons h, List.getD_eq_getElem?_getD, List.getElem?_eq_getElem h]
  rfl
theorem info_string : (Try.prog.info? 9).map (fun i => (i.zero, i.size, i.bytes)) = some (some (.string ⟨#[]⟩), 1, 16) := by kernel_rfl

/-- Of Print: the text, or the error. -/
def PrintRes (r : Option (List UInt8)) (e : Ending) : Prop := e = .returned (.tuple #[.string (tx (r.getD [])), .int .i64 (if r.isSome then 0 else 1)])

theorem map_back (acc : List (List UInt8)) : (acc.map tx).map (·.data.toList) = acc := by
  rw [List.map_map, show ((fun s : ByteArray => s.data.toList) ∘ tx) = id from rfl, List.map_id]
set_option maxRecDepth 100000 in
theorem join_acc (wr : World) (base : Nat) (v : Value) (acc : List (List UInt8)) (hR : Kd.R Kd.string 9 wr base (fun _ => True) v (acc.map tx)) (h2 : ∀ l ∈ acc, l.length ≤ 122) (hn : acc.length ≤ 1000000) :
    Calls Try.prog 47 #[v, .string ⟨#[32]⟩] wr fun e w' => e = .returned (.string (tx (joinL acc))) ∧ Below wr.heap.size wr w' := by
  have hm := map_back acc
  have hj : Lib.join ((acc.map tx).map (·.data.toList)) (⟨#[32]⟩ : ByteArray).data.toList = joinL acc := by rw [hm]; exact joinL_lib acc
  have hl := joinL_len 122 acc h2
  rcases Nat.eq_zero_or_pos acc.length with h0 | h0
  · obtain rfl := List.eq_nil_of_length_eq_zero h0
    obtain ⟨B, d, rfl⟩ := Kd.R_slice hR
    exact (Try.strings_Join_none B d ⟨#[32]⟩ wr).mono fun e w' ⟨h1, h2⟩ => ⟨h1, by rw [h2]; exact Below.refl _ _⟩
  · obtain ⟨A, d, rfl, hcap, hC⟩ := Kd.R_reads hR
    obtain ⟨g, cap, hv, hg1, hg2, cells, hg3⟩ := Kd.R_form hR (by rw [List.length_map]; exact h0)
    injection hv with hv1 hv2 hv3
    subst hv1 hv3
    refine (Try.strings_Join g 0 d (acc.map tx) ⟨#[32]⟩ wr ?_ hg2 (by rw [List.length_map]; omega) hcap (by rw [hj]; omega)).mono ?_
    · intro j x hjx
      have hjl : j < (acc.map tx).length := by
        rcases Nat.lt_or_ge j (acc.map tx).length with h | h
        · exact h
        · rw [List.getElem?_eq_none h] at hjx; cases hjx
      obtain ⟨ad, e1, e2⟩ := Kd.at_string hC (j : Int) (by omega) (by omega)
      cases e1
      rw [show rdOf ByteArray.empty (acc.map tx) (j : Int) = x from by unfold rdOf; rw [List.getD_eq_getElem?_getD, Int.toNat_natCast, hjx]; rfl] at e2
      rw [← e2]
      congr 1
      simp only [Addr.add, Int.toNat_natCast]
      split
      · rename_i h; subst h; rfl
      · simp
    · rintro e w' ⟨rfl, hb⟩
      refine ⟨?_, hb⟩
      rw [hj]
      rfl

set_option maxRecDepth 100000 in
set_option maxHeartbeats 4000000 in
theorem tok_Print (w : World) (A : Option Addr) (c : Nat) (xs : List Tok) (hx : kTok.C w A xs.length xs) (hn : xs.length ≤ 1000000) (hsz : ∀ x ∈ xs, x.text.size ≤ 1000000000) (r : Option (List UInt8)) (hr : printO xs = r) :
    Calls Try.prog 20 #[.slice A xs.length c] w fun e w' => PrintRes r e ∧ Below w.heap.size w w' := by
  have HR := Hid.mk' hr
  clear hr
  go_enter Try.func20, Try.ntmps20
  go_wp2
  go_loopw [4, 11] (fun v i wr => ∃ (k : Nat) (acc : List (List UInt8)), i = .int .i64 k ∧ k ≤ xs.length ∧ acc.length = k ∧ Kd.R Kd.string 9 wr w.heap.size (fun _ => True) v (acc.map tx) ∧ Below w.heap.size w wr ∧ w.heap.size ≤ wr.heap.size ∧ Hid ((outs (xs.drop k)).map (fun l => joinL (acc ++ l)) = r ∧ ∀ l ∈ acc, l.length ≤ 122)) (fun _ i _ => xs.length - (intOf i).toNat)
  case atStart => exact ⟨0, [], rfl, by omega, rfl, Kd.R_nil _ _ _ _ _, Below.refl _ _, Nat.le_refl _, by rw [← HR.out, List.drop_zero]; unfold printO; congr 1, by simp⟩
  case round =>
    obtain ⟨k, acc, rfl, hk, hak, hR, hbl, hws, hinv⟩ := hrel
    obtain ⟨B, d, rfl⟩ := Kd.R_slice hR
    by_cases hlt : k < xs.length
    · obtain ⟨x, hxk⟩ : ∃ x, xs.getD k tok0 = x := ⟨_, rfl⟩
      have hdr := drop_getD xs k hlt
      rw [hxk] at hdr
      have hxs : x.text.size ≤ 1000000000 := hsz x (by rw [← hxk, List.getD_eq_getElem?_getD, List.getElem?_eq_getElem hlt]; exact List.getElem_mem hlt)
      obtain ⟨a, hA, x0, x1, x2, x3⟩ := kTok_at (Kd.C_below hx hbl) k hlt
      rw [hxk] at x0 x1 x2 x3
      subst hA
      have HX := Hid.mk' hdr
      clear hxk hdr
      have hlti : (k : Int) < xs.length := by omega
      have hln : (acc.map tx).length = k := by rw [List.length_map]; exact hak
      rw [hln] at hR ⊢
      have HA := Hid.mk' hak
      clear hak
      cases ho : x.out
      · have HO : Hid (textO x.kind x.text.data.toList = none) := ho
        clear ho
        go_wp2_with (go_at_call 46; refine (tok_text_not x.kind x.text x.at_ x.end_ _ hxs HO.out).mono ?_; rintro e w1 ⟨⟨s, rfl⟩, hb1⟩)
        go_ret2
        have : r = none := by rw [← hinv.out.1, HX.out, outs_cons_none _ _ HO.out]; rfl
        subst this
        exact ⟨rfl, (hbl.alloc hws _).trans (hb1.mono (by simp; omega))⟩
      · rename_i o
        have HO : Hid (textO x.kind x.text.data.toList = some o) := ho
        clear ho
        have hl6 : ((acc.map tx).length + 1) * 16 ≤ 140737488355328 := by rw [hln]; omega
        go_wp2_with (first
          | (go_at_call 46; refine (tok_text_is x.kind x.text x.at_ x.end_ o _ hxs HO.out).mono ?_; rintro e w1 ⟨rfl, hb1⟩)
          | (at_builtin; refine Kd.R_append Kd.string (w0 := w) w.heap.size rfl _ _ 51 9 (.string ⟨#[]⟩) 16 rfl Try.underlying51 info_string rfl (by decide) (by omega) (.slice B k d) (acc.map tx) (tx o) [.string (tx o)] (fun _ => True) (fun _ => False) rfl ?aX ?aP (fun _ hk => hk.elim) ?aF ?aO ?aB ?aS hl6 ?_))
        case aX => simp [Act.eval]
        case aP => exact rfl
        case aF => exact fun _ _ => trivial
        case aO => exact Kd.R_below hR (((Below.refl _ _).alloc (Nat.le_refl _) _).trans (hb1.mono (by simp)))
        case aB => exact (hbl.alloc hws _).trans (hb1.mono (by simp; omega))
        case aS => have := hb1.size; simp at this; omega
        intro v2 w2 hR2 hb2 hg hat
        go_wp2
        go_roundw
        case rel => exact ⟨k + 1, acc ++ [o], by go_num, by omega, by rw [List.length_append, HA.out]; rfl, by rw [List.map_append]; exact hR2, hb2, hb2.size, by
          rw [← hinv.out.1, HX.out, outs_cons_some _ _ _ HO.out, Option.map_map]
          congr 1
          funext l
          simp, fun l hl => by
            rcases List.mem_append.1 hl with h | h
            · exact hinv.out.2 l h
            · rw [List.mem_singleton.1 h]
              exact textO_len _ _ _ HO.out⟩
        case measure => simp [intOf]; omega
    · have HF : Hid (r = some (joinL acc)) := by show r = _; rw [← hinv.out.1, List.drop_eq_nil_of_le (by omega)]; simp [outs]
      have hln : (acc.map tx).length = k := by rw [List.length_map]; exact hak
      have hJ : Hid (Calls Try.prog 47 #[.slice B k d, .string ⟨#[32]⟩] wr fun e w' => e = .returned (.string (tx (joinL acc))) ∧ Below wr.heap.size wr w') := by
        rw [hln] at hR
        exact join_acc wr w.heap.size _ acc hR hinv.out.2 (by omega)
      clear hinv HR hR hak
      obtain ⟨o, ho⟩ : ∃ o, tx (joinL acc) = o := ⟨_, rfl⟩
      rw [ho] at hJ
      have HO := Hid.mk' ho
      clear ho
      rw [hln]
      go_wp2_with (go_at_call 47; refine hJ.out.mono ?_; rintro e w' ⟨rfl, hb1⟩)
      go_ret2
      refine ⟨?_, hbl.trans (hb1.mono hws)⟩
      rw [HF.out]
      unfold PrintRes
      rw [show (some (joinL acc)).getD [] = joinL acc from rfl, HO.out]
      rfl
end Go.Proofs.Ytlnoadnejefmoaa
