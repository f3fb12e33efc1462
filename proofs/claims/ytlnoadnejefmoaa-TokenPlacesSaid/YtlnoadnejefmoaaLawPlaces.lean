/- codesearchlaw11.TokenPlaces returns true. For every string. -/
import Derived.Test.YtlnoadnejefmoaaTkLaw
import Derived.Test.YtlnoadnejefmoaaTkPlain
import Derived.Deep.QuietTactic
import Derived.BigQuiet
import Derived.Deep.RegionWith
set_option linter.unusedVariables false
set_option linter.unusedSimpArgs false
namespace Go.Proofs.Ytlnoadnejefmoaa
open Go.RowKit Go.Proofs.YtlnoadnejefmoaaW.PrintWords

/-- One round's facts. -/
theorem place_round (s : ByteArray) (L : List Tok) (q k : Nat) (hq : q ≤ s.size) (hk : k < L.length) (h : tokS false (s.data.toList.drop q) q = some (L.drop k)) :
    ∃ P E : Nat, (L.getD k tok0).at_ = (P : Int) ∧ (L.getD k tok0).end_ = (E : Int) ∧ q ≤ P ∧ P < E ∧ E ≤ s.size ∧ tokS false (s.data.toList.drop E) E = some (L.drop (k + 1)) ∧
      scanR false (s.extract q P).data.toList = ⟨[], 0, 0⟩ ∧ scanR false (s.extract P E).data.toList = ⟨[⟨(L.getD k tok0).kind, (L.getD k tok0).text, 0, ((E - P : Nat) : Int)⟩], 0, 0⟩ := by
  rw [drop_getD L k hk] at h
  obtain ⟨k1, m, h1, h2, h3, h4, h5, h6, h7⟩ := place_step false _ q _ _ h
  rw [List.length_drop, len_data] at h4
  rw [List.drop_drop] at h5 h7
  refine ⟨q + k1, q + k1 + m, h1, h2, by omega, by omega, by omega, by rw [Nat.add_assoc] at h5 ⊢; exact h5, ?_, ?_⟩
  · rw [ext_tx, tx_list, Nat.add_sub_cancel_left]; exact h6
  · rw [ext_tx, tx_list, Nat.add_sub_cancel_left]; exact h7
theorem own_known (s : ByteArray) (t : Tok) (w : World) (hs : s.size ≤ 1000000000) (h : scanR false s.data.toList = ⟨[t], 0, 0⟩) :
    Calls Try.prog 14 #[.string s] w fun e w' => ∃ g c, e = .returned (.tuple #[.slice (some ⟨g, 0, none⟩) 1 c, .int .i64 0, .int .i64 0]) ∧ (w'.cell? ⟨g, 0, none⟩ = some (.int .i64 t.kind) ∧ w'.cell? ⟨g, 1, none⟩ = some (.string t.text)) ∧ Below w.heap.size w w' := by
  refine (tok_Scan s w hs _ h).mono ?_
  rintro e w' ⟨v, rfl, hR, hb⟩
  obtain ⟨A, c, rfl, _, hC⟩ := Kd.R_reads hR
  obtain ⟨g, cap, hv, _⟩ := Kd.R_form hR (by simp)
  injection hv with h1 h2 h3
  subst h1
  obtain ⟨c0, c1, _, _⟩ := tok_cells hC 0 (by simp) t rfl
  exact ⟨g, c, rfl, ⟨by simpa using c0, by simpa using c1⟩, hb⟩

set_option maxHeartbeats 4000000 in
set_option maxRecDepth 100000 in
theorem law_places (s : ByteArray) (w : World) : Calls Try.prog 5 #[.string s] w fun e w' => e = .returned (.bool true) ∧ Below w.heap.size w w' := by
  rcases Nat.lt_or_ge 1000 s.size with hl | hl
  · have hl1 : (1000 : Int) < s.size := by omega
    go_enter Try.func5, Try.ntmps5
    go_wp2_with (go_at_call 13; refine (law_alive _).mono ?_; rintro e w1 ⟨rfl, hb1⟩)
    go_ret
    exact ⟨rfl, hb1⟩
  · have hl1 : ¬ ((1000 : Int) < s.size) := by omega
    have hs : s.size ≤ 1000000000 := by omega
    obtain ⟨L, off, err, h⟩ := scanR_parts false s.data.toList
    by_cases he : err = 0
    · have he1 : (err != 0) = false := by rw [he]; rfl
      have HT := Hid.mk' (scanR_inv false _ L off err h he).1
      have hLm : L.length ≤ 600 := (scanR_inv false _ L off err h he).2.1
      have H := Hid.mk' h
      clear h he
      go_enter Try.func5, Try.ntmps5
      go_wp2_with (first
        | (go_at_call 13; refine (law_alive _).mono ?_; rintro e w1 ⟨rfl, hb1⟩)
        | (go_at_call 14; refine (scan_any s L off err _ hs H.out).mono ?_; rintro e w2 ⟨A, c, rfl, hC, hb2⟩))
      have hw2 : Below w.heap.size w w2 := hb1.trans (hb2.mono hb1.size)
      clear hb1 hb2
      go_loopw [6, 7] (fun v i wr => ∃ (k q : Nat), v = .int .i64 q ∧ i = .int .i64 k ∧ k ≤ L.length ∧ q ≤ s.size ∧ Below w2.heap.size w2 wr ∧ Hid (tokS false (s.data.toList.drop q) q = some (L.drop k))) (fun _ i _ => L.length - (intOf i).toNat)
      case atStart => exact ⟨0, 0, rfl, rfl, by omega, by omega, Below.refl _ _, HT.out⟩
      case round =>
        obtain ⟨k, q, rfl, rfl, hk, hq, hbl, hinv⟩ := hrel
        by_cases hlt : k < L.length
        · obtain ⟨x, hxk⟩ : ∃ x, L.getD k tok0 = x := ⟨_, rfl⟩
          obtain ⟨P, E, e1, e2, e3, e4, e5, e6, e7, e8⟩ := place_round s L q k hq hlt hinv.out
          obtain ⟨a, hA, x0, x1, x2, x3⟩ := kTok_at (Kd.C_below hC hbl) k hlt
          rw [hxk] at x0 x1 x2 x3 e1 e2 e8
          rw [e1] at x2
          rw [e2] at x3
          subst hA
          obtain ⟨gap, hgap⟩ : ∃ g, s.extract q P = g := ⟨_, rfl⟩
          obtain ⟨own, hown⟩ : ∃ g, s.extract P E = g := ⟨_, rfl⟩
          have hgs : gap.size ≤ 1000000000 := by rw [← hgap]; simp; omega
          have hos : own.size ≤ 1000000000 := by rw [← hown]; simp; omega
          rw [hgap] at e7
          rw [hown] at e8
          have HLT : Hid (k + 1 ≤ L.length) := hlt
          have HES := Hid.mk' e5
          have HX := Hid.mk' hxk
          have E1 := Hid.mk' e1
          have E2 := Hid.mk' e2
          have E6 := Hid.mk' e6
          have E7 := Hid.mk' e7
          have E8 := Hid.mk' e8
          clear e1 e2 e6 e7 e8 hxk
          have hlti : (k : Int) < L.length := by omega
          have i1 : ¬ ((P : Int) < q) := by omega
          have i2 : ¬ ((E : Int) ≤ P) := by omega
          have i3 : ¬ ((s.size : Int) < E) := by omega
          have i4 : (q : Int) ≤ P := by omega
          have i5 : (P : Int) ≤ E := by omega
          have i6 : (E : Int) ≤ s.size := by omega
          have i7 : (P : Int) ≤ s.size := by omega
          go_wp2
          go_quiet (fail)
          go_wp2_with (first
            | (go_at_call 14; ((with_reducible refine (scan_known gap [] 0 0 0 _ hgs E7.out rfl).mono ?_); rintro e w3 ⟨G, d, rfl, _, hb3⟩)))
          have hb3' : Below w2.heap.size w2 w3 := (pw_below_drewN hbl nq).trans (hb3.mono hbl.size)
          obtain ⟨b, hB, z0, z1, z2, z3⟩ := kTok_at (Kd.C_below hC hb3') k hlt
          cases hB
          have hxe := HX.out
          rw [hxe] at z0 z1 z2 z3
          rw [E1.out] at z2
          rw [E2.out] at z3
          clear hxe x0 x1 x2 x3 hb3 hbl
          go_region_with (go_at_call 14; ((with_reducible refine (own_known own _ _ hos E8.out).mono ?_); rintro e w4 ⟨G2, d2, rfl, ⟨o0, o1⟩, hb4⟩))
          all_goals
            have hb4' : Below w2.heap.size w2 w4 := hb3'.drew.trans (hb4.mono hb3'.size)
            clear z0 z1 z2 z3
            obtain ⟨b, hB, z0, z1, z2, z3⟩ := kTok_at (Kd.C_below hC hb4') k hlt
            cases hB
            rw [HX.out] at z0 z1 z2 z3
            rw [E1.out] at z2
            rw [E2.out] at z3
            have j1 : (0 : Int) < ((1 : Nat) : Int) := by decide
            go_wp2
            go_quiet (fail)
            go_wp2
            go_roundw
            case rel => exact ⟨k + 1, E, rfl, by go_num, HLT.out, HES.out, pw_below_drewN hb4' _, E6.out⟩
            case measure => have := HLT.out; simp [intOf]; omega
        · have HN := place_end false _ q (by rw [show L.drop k = [] from List.drop_eq_nil_of_le (by omega)] at hinv; exact hinv.out)
          obtain ⟨rest, hrest⟩ : ∃ g, s.extract q s.size = g := ⟨_, rfl⟩
          have hrs : rest.size ≤ 1000000000 := by rw [← hrest]; simp; omega
          have hR : scanR false rest.data.toList = ⟨[], 0, 0⟩ := by rw [← hrest, extE_list]; exact HN
          have HR := Hid.mk' hR
          have i6 : (q : Int) ≤ s.size := by omega
          clear HN hR
          go_wp2_with (first
            | (go_at_call 14; ((with_reducible refine (scan_known rest [] 0 0 0 _ hrs HR.out rfl).mono ?_); rintro e w3 ⟨G, d, rfl, _, hb3⟩)))
          go_ret
          exact ⟨rfl, hw2.trans ((hbl.trans (hb3.mono hbl.size)).mono hw2.size)⟩
    · have he1 : (err != 0) = true := by rw [bne_iff_ne]; exact he
      have H := Hid.mk' h
      clear h he
      go_enter Try.func5, Try.ntmps5
      go_wp2_with (first
        | (go_at_call 13; refine (law_alive _).mono ?_; rintro e w1 ⟨rfl, hb1⟩)
        | (go_at_call 14; refine (scan_any s L off err _ hs H.out).mono ?_; rintro e w2 ⟨A, c, rfl, hC, hb2⟩))
      go_ret
      exact ⟨rfl, hb1.trans (hb2.mono hb1.size)⟩
end Go.Proofs.Ytlnoadnejefmoaa
