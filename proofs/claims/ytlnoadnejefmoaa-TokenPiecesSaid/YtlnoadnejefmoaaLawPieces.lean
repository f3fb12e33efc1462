/- codesearchlaw11.TokenPieces returns true. For every two strings. -/
import Derived.Test.YtlnoadnejefmoaaTkLaw
import Derived.Deep.QuietTactic
import Derived.BigQuiet
import Derived.Deep.RegionWith
import Derived.Test.YtlnoadnejefmoaaWMore
import Derived.Test.YtlnoadnejefmoaaWEqStruct
set_option linter.unusedVariables false
set_option linter.unusedSimpArgs false
namespace Go.Proofs.Ytlnoadnejefmoaa
open Go.RowKit Go.Proofs.YtlnoadnejefmoaaW.PrintWords
open Go.Proofs.YtlnoadnejefmoaaW.PrintLast Go.Proofs.YtlnoadnejefmoaaW.PrintMore
theorem eqTok (d : Nat) (w : World) (x0 y0 : Int) (x1 y1 : ByteArray) (x2 y2 : Int) (x3 y3 : Int) :
    (Op.equalIn (d + 2) 33 (.agg #[.int .i64 x0, .string x1, .int .i64 x2, .int .i64 x3]) (.agg #[.int .i64 y0, .string y1, .int .i64 y2, .int .i64 y3])).run Try.prog w = .ok (x0 == y0 && (x1.toList == y1.toList && (x2 == y2 && (x3 == y3)))) w := by
  refine eqA_of Try.underlying33 (by kernel_rfl) ?_
  refine eqf_cons (by rfl) (by go_simp; rfl) (by go_simp; rfl) (by go_simp) ?_
  refine eqf_cons (by rfl) (by go_simp; rfl) (by go_simp; rfl) (by go_simp) ?_
  refine eqf_cons (by rfl) (by go_simp; rfl) (by go_simp; rfl) (by go_simp) ?_
  exact eqf_last (by rfl) (by go_simp; rfl) (by go_simp; rfl) (by go_simp)
attribute [local go_sem high] eqTok

theorem tokS_bound (pat : Bool) : ∀ (ts : List Tok) (l : List UInt8) (p : Nat), tokS pat l p = some ts → ∀ t ∈ ts, 0 ≤ t.at_ ∧ t.at_ ≤ t.end_ ∧ t.end_ ≤ (p + l.length : Nat)
  | [], l, p, h => by simp
  | t :: ts, l, p, h => by
    obtain ⟨k, m, h1, h2, h3, h4, h5, _⟩ := place_step pat l p t ts h
    intro x hx
    rcases List.mem_cons.1 hx with rfl | hx
    · omega
    · have := tokS_bound pat ts _ _ h5 x hx
      rw [List.length_drop] at this
      omega
def joinC (a b : List Tok) (n : Nat) : List Tok := a ++ b.map (Tok.shift (n + 1))
theorem joinC_len (a b : List Tok) (n : Nat) : (joinC a b n).length = a.length + b.length := by unfold joinC; simp
theorem joinC_l (a b : List Tok) (n k : Nat) (h : k < a.length) : (joinC a b n).getD k tok0 = a.getD k tok0 := by
  unfold joinC
  rw [List.getD_eq_getElem?_getD, List.getD_eq_getElem?_getD, List.getElem?_append_left h]
theorem joinC_r (a b : List Tok) (n k : Nat) (h : a.length ≤ k) (h2 : k < a.length + b.length) : (joinC a b n).getD k tok0 = (b.getD (k - a.length) tok0).shift (n + 1) := by
  unfold joinC
  have hl : k - a.length < b.length := by omega
  rw [List.getD_eq_getElem?_getD, List.getD_eq_getElem?_getD, List.getElem?_append_right h, List.getElem?_map, List.getElem?_eq_getElem hl]
  rfl

set_option maxHeartbeats 4000000 in
set_option maxRecDepth 100000 in
theorem law_pieces_main (s t : ByteArray) (a b : List Tok) (w : World) (hl1 : ¬ ((1000 : Int) < s.size)) (hl2 : ¬ ((1000 : Int) < t.size)) (o1 o2 : Int) (ha : scanR false s.data.toList = ⟨a, o1, 0⟩) (hb : scanR false t.data.toList = ⟨b, o2, 0⟩) (hn : a.length + b.length ≤ 600) :
    Calls Try.prog 6 #[.string s, .string t] w fun e w' => e = .returned (.bool true) ∧ Below w.heap.size w w' := by
  have hs : s.size ≤ 1000000000 := by omega
  have ht : t.size ≤ 1000000000 := by omega
  obtain ⟨hb1, _, rfl⟩ := scanR_inv false _ b _ 0 hb rfl
  obtain ⟨_, _, rfl⟩ := scanR_inv false _ a _ 0 ha rfl
  have hbd : Hid (∀ x ∈ b, 0 ≤ x.at_ ∧ x.at_ ≤ x.end_ ∧ x.end_ ≤ 1000) := fun x hx => by
    have := tokS_bound false b _ _ hb1 x hx
    rw [len_data] at this
    omega
  obtain ⟨c, hc⟩ : ∃ c, joinC a b s.size = c := ⟨_, rfl⟩
  have hcl : c.length = a.length + b.length := by rw [← hc]; exact joinC_len a b s.size
  have hC : Hid (scanR false ((s ++ (⟨#[10]⟩ : ByteArray)) ++ t).data.toList = ⟨c, 0, 0⟩) := by
    have hp := pieces false _ _ a b ha hb hn
    have e1 : ((s ++ (⟨#[10]⟩ : ByteArray)) ++ t).data.toList = s.data.toList ++ 10 :: t.data.toList := by simp
    show scanR _ _ = _
    rw [e1, hp, ← hc, len_data]
    rfl
  obtain ⟨st, hst⟩ : ∃ st, (s ++ (⟨#[10]⟩ : ByteArray)) ++ t = st := ⟨_, rfl⟩
  have hsts : st.size ≤ 1000000000 := by
    rw [← hst, ByteArray.size_append, ByteArray.size_append, show (⟨#[10]⟩ : ByteArray).size = 1 from rfl]
    omega
  rw [hst] at hC
  have HST := Hid.mk' hst
  have HA := Hid.mk' ha
  have HB := Hid.mk' hb
  have HC := Hid.mk' hc
  have HCL := Hid.mk' hcl
  have hc1 : c.length ≤ 600 := by omega
  have hc2 : ((c.length : Int) != (a.length : Int) + b.length) = false := by rw [bne_eq_false_iff_eq]; omega
  have hn2 : ¬ ((600 : Int) < (a.length : Int) + b.length) := by omega
  have hn3 : (a.length : Int) + b.length ≤ 600 := by omega
  clear ha hb hb1 hst hc hcl
  go_enter Try.func6, Try.ntmps6
  go_wp2_with (first
    | (go_at_call 13; refine (law_alive _).mono ?_; rintro e w1 ⟨rfl, hb1⟩)
    | (go_at_call 14; ((with_reducible refine (scan_any s a 0 0 _ hs HA.out).mono ?_); rintro e w2 ⟨A, ca, rfl, hAC, hb2⟩)))
  go_wp2_with (go_at_call 14; ((with_reducible refine (scan_any t b 0 0 _ ht HB.out).mono ?_); rintro e w3 ⟨B, cb, rfl, hBC, hb3⟩))
  rw [HST.out]
  refine (scan_any st c 0 0 _ hsts hC.out).mono ?_
  rintro e w4 ⟨C, cc, rfl, hCC, hb4⟩
  have hw4 : Below w.heap.size w w4 := ((hb1.trans (hb2.mono hb1.size)).trans (hb3.mono (Nat.le_trans hb1.size hb2.size))).trans (hb4.mono (Nat.le_trans (Nat.le_trans hb1.size hb2.size) hb3.size))
  have hAC := Kd.C_below (Kd.C_below hAC hb3) hb4
  have hBC := Kd.C_below hBC hb4
  clear hb1 hb2 hb3 hb4
  go_wp2_with (fail)
  go_loopw [14] (fun i wr => ∃ k : Nat, i = .int .i64 k ∧ k ≤ c.length ∧ Below w4.heap.size w4 wr) (fun i _ => c.length - (intOf i).toNat)
  case atStart => exact ⟨0, rfl, by omega, Below.refl _ _⟩
  case round =>
    obtain ⟨k, rfl, hk, hbl⟩ := hrel
    by_cases hlt : k < c.length
    · have hlti : (k : Int) < c.length := by omega
      have hws := hbl.size
      by_cases hka : k < a.length
      · have hkai : (k : Int) < a.length := by omega
        obtain ⟨x, hxk⟩ : ∃ x, a.getD k tok0 = x := ⟨_, rfl⟩
        have hck : c.getD k tok0 = x := by rw [← HC.out, joinC_l a b s.size k hka, hxk]
        obtain ⟨A', hA, x0, x1, x2, x3⟩ := kTok_at (Kd.C_alloc (Kd.C_below hAC hbl) (.cells #[.int .i64 0, .string ⟨#[]⟩, .int .i64 0, .int .i64 0] 33)) k hka
        obtain ⟨C', hC', y0, y1, y2, y3⟩ := kTok_at (Kd.C_alloc (Kd.C_below hCC hbl) (.cells #[.int .i64 x.kind, .string x.text, .int .i64 x.at_, .int .i64 x.end_] 33)) k hlt
        rw [hxk] at x0 x1 x2 x3
        rw [hck] at y0 y1 y2 y3
        subst hA hC'
        clear hxk hck
        go_wp2_with (fail)
        go_quiet (fail)
        go_wp2_with (fail)
        go_roundw
        case rel => exact ⟨k + 1, by go_num, by omega, pw_below_drewN (hbl.alloc hws _) _⟩
        case measure => simp [intOf]; omega
      · have hkai : ¬ ((k : Int) < a.length) := by omega
        have hcl := HCL.out
        obtain ⟨j, hj⟩ : ∃ j, k - a.length = j := ⟨_, rfl⟩
        have hjb : j < b.length := by omega
        obtain ⟨x, hxk⟩ : ∃ x, b.getD j tok0 = x := ⟨_, rfl⟩
        have hbx := hbd.out x (by rw [← hxk, List.getD_eq_getElem?_getD, List.getElem?_eq_getElem hjb]; exact List.getElem_mem hjb)
        have hck : c.getD k tok0 = x.shift (s.size + 1) := by rw [← HC.out, joinC_r a b s.size k (by omega) (by omega), hj, hxk]
        obtain ⟨B', hB', x0, x1, x2, x3⟩ := kTok_at (Kd.C_alloc (Kd.C_below hBC hbl) (.cells #[.int .i64 0, .string ⟨#[]⟩, .int .i64 0, .int .i64 0] 33)) j hjb
        obtain ⟨C', hC', y0, y1, y2, y3⟩ := kTok_at (Kd.C_alloc (Kd.C_below hCC hbl) (.cells #[.int .i64 x.kind, .string x.text, .int .i64 (x.at_ + s.size + 1), .int .i64 (x.end_ + s.size + 1)] 33)) k hlt
        rw [hxk] at x0 x1 x2 x3
        rw [hck] at y0 y1 y2 y3
        rw [show (x.shift (s.size + 1)).at_ = x.at_ + s.size + 1 from by show x.at_ + ((s.size + 1 : Nat) : Int) = _; omega] at y2
        rw [show (x.shift (s.size + 1)).end_ = x.end_ + s.size + 1 from by show x.end_ + ((s.size + 1 : Nat) : Int) = _; omega] at y3
        replace y0 : _ = some (Value.int .i64 x.kind) := y0
        replace y1 : _ = some (Value.string x.text) := y1
        subst hB' hC'
        obtain ⟨hx1, hx2, hx3⟩ := hbx
        have hx4 : x.at_ ≤ 1000 := by omega
        have hx5 : 0 ≤ x.end_ := by omega
        have i1 : (0 : Int) ≤ (k : Int) - a.length := by omega
        have i2 : (k : Int) - a.length < b.length := by omega
        have i3 : ((k : Int) - a.length).toNat = j := by omega
        clear hxk hck hcl hj
        go_wp2_with (fail)
        go_quiet (fail)
        go_wp2_with (fail)
        go_roundw
        case rel => exact ⟨k + 1, by go_num, by omega, pw_below_drewN (hbl.alloc hws _) _⟩
        case measure => simp [intOf]; omega
    · go_wp2_with (fail)
      go_ret
      exact ⟨rfl, hw4.trans (hbl.mono hw4.size)⟩

set_option maxHeartbeats 4000000 in
set_option maxRecDepth 100000 in
theorem law_pieces (s t : ByteArray) (w : World) : Calls Try.prog 6 #[.string s, .string t] w fun e w' => e = .returned (.bool true) ∧ Below w.heap.size w w' := by
  by_cases hl1 : (1000 : Int) < s.size
  · go_enter Try.func6, Try.ntmps6
    go_wp2_with (go_at_call 13; refine (law_alive _).mono ?_; rintro e w1 ⟨rfl, hb1⟩)
    go_ret
    exact ⟨rfl, hb1⟩
  by_cases hl2 : (1000 : Int) < t.size
  · go_enter Try.func6, Try.ntmps6
    go_wp2_with (go_at_call 13; refine (law_alive _).mono ?_; rintro e w1 ⟨rfl, hb1⟩)
    go_ret
    exact ⟨rfl, hb1⟩
  have hs : s.size ≤ 1000000000 := by omega
  have ht : t.size ≤ 1000000000 := by omega
  obtain ⟨a, o1, e1, ha⟩ := scanR_parts false s.data.toList
  obtain ⟨b, o2, e2, hb⟩ := scanR_parts false t.data.toList
  have hrest : (e1 != 0) = true ∨ ((e1 != 0) = false ∧ (e2 != 0) = true) ∨ ((e1 != 0) = false ∧ (e2 != 0) = false ∧ a.length ≤ 600 ∧ b.length ≤ 600 ∧ 600 < a.length + b.length) ∨ (e1 = 0 ∧ e2 = 0 ∧ a.length + b.length ≤ 600) := by
    by_cases h1 : e1 = 0
    · by_cases h2 : e2 = 0
      · have := (scanR_inv false _ a o1 e1 ha h1).2.1
        have := (scanR_inv false _ b o2 e2 hb h2).2.1
        by_cases h3 : a.length + b.length ≤ 600
        · exact .inr (.inr (.inr ⟨h1, h2, h3⟩))
        · exact .inr (.inr (.inl ⟨by rw [h1]; rfl, by rw [h2]; rfl, by omega, by omega, by omega⟩))
      · exact .inr (.inl ⟨by rw [h1]; rfl, by rw [bne_iff_ne]; exact h2⟩)
    · exact .inl (by rw [bne_iff_ne]; exact h1)
  have HA := Hid.mk' ha
  have HB := Hid.mk' hb
  clear ha hb
  rcases hrest with h1 | ⟨h1, h2⟩ | ⟨h1, h2, h3, h4, h5⟩ | ⟨rfl, rfl, h3⟩
  · go_enter Try.func6, Try.ntmps6
    go_wp2_with (first
      | (go_at_call 13; refine (law_alive _).mono ?_; rintro e w1 ⟨rfl, hb1⟩)
      | (go_at_call 14; ((with_reducible refine (scan_any s a o1 e1 _ hs HA.out).mono ?_); rintro e w2 ⟨A, ca, rfl, hAC, hb2⟩)))
    go_wp2_with (go_at_call 14; ((with_reducible refine (scan_any t b o2 e2 _ ht HB.out).mono ?_); rintro e w3 ⟨B, cb, rfl, hBC, hb3⟩))
    go_ret
    exact ⟨rfl, (hb1.trans (hb2.mono hb1.size)).trans (hb3.mono (Nat.le_trans hb1.size hb2.size))⟩
  · go_enter Try.func6, Try.ntmps6
    go_wp2_with (first
      | (go_at_call 13; refine (law_alive _).mono ?_; rintro e w1 ⟨rfl, hb1⟩)
      | (go_at_call 14; ((with_reducible refine (scan_any s a o1 e1 _ hs HA.out).mono ?_); rintro e w2 ⟨A, ca, rfl, hAC, hb2⟩)))
    go_wp2_with (go_at_call 14; ((with_reducible refine (scan_any t b o2 e2 _ ht HB.out).mono ?_); rintro e w3 ⟨B, cb, rfl, hBC, hb3⟩))
    go_ret
    exact ⟨rfl, (hb1.trans (hb2.mono hb1.size)).trans (hb3.mono (Nat.le_trans hb1.size hb2.size))⟩
  · have h6 : (600 : Int) < (a.length : Int) + b.length := by omega
    go_enter Try.func6, Try.ntmps6
    go_wp2_with (first
      | (go_at_call 13; refine (law_alive _).mono ?_; rintro e w1 ⟨rfl, hb1⟩)
      | (go_at_call 14; ((with_reducible refine (scan_any s a o1 e1 _ hs HA.out).mono ?_); rintro e w2 ⟨A, ca, rfl, hAC, hb2⟩)))
    go_wp2_with (go_at_call 14; ((with_reducible refine (scan_any t b o2 e2 _ ht HB.out).mono ?_); rintro e w3 ⟨B, cb, rfl, hBC, hb3⟩))
    go_ret
    exact ⟨rfl, (hb1.trans (hb2.mono hb1.size)).trans (hb3.mono (Nat.le_trans hb1.size hb2.size))⟩
  · exact law_pieces_main s t a b w hl1 hl2 o1 o2 HA.out HB.out h3
end Go.Proofs.Ytlnoadnejefmoaa
