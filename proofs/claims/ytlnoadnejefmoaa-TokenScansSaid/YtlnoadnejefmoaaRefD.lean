import Derived.Test.YtlnoadnejefmoaaRefC
set_option linter.unusedVariables false
set_option linter.unusedSimpArgs false
namespace Go.Proofs.Ytlnoadnejefmoaa
open Go.RowKit Go.Proofs.YtlnoadnejefmoaaW.PrintWords

def byI (acc : List UInt8) : List Int := acc.map fun b => (b.toNat : Int)
theorem byI_len (acc : List UInt8) : (byI acc).length = acc.length := by simp [byI]
theorem byI_tx (acc : List UInt8) : strOfNums (byI acc) = tx acc := by
  apply ba_ext
  show (byI acc).map (fun n => UInt8.ofNat n.toNat) = acc
  unfold byI
  rw [List.map_map]
  conv => rhs; rw [← List.map_id acc]
  apply List.map_congr_left
  intro b _
  simp
theorem byI_snoc (acc : List UInt8) (c : UInt8) : byI (acc ++ [c]) = byI acc ++ [(c.toNat : Int)] := by simp [byI]

theorem ten_rng : 0 ≤ (10 : Int) ∧ (10 : Int) ≤ 255 := by omega
theorem ofI_rng (c : Int) (h : 0 ≤ c ∧ c ≤ 255) : ((ofI c).toNat : Int) = c := by
  unfold ofI
  rw [UInt8.toNat_ofNat_of_lt' (by show c.toNat < 256; omega)]
  omega
section
variable {ops : Array Oper} {rest : List Oper} {o : Oper} {a : Act} {Q : Exit → Act → World → Prop}
theorem app_byte {W : World} (base : Nat) (hgd : o.guard = none) (s x : Operand)
    (ho : o.op = .call { callee := .builtin .append, args := #[s, x], argTypes := #[63, 63] })
    (v : Value) (acc : List UInt8) (c : Int) (hs : a.eval s = v) (hx : a.eval x = .slice (some ⟨W.heap.size, 0, none⟩) 1 1)
    (HO : W.ownsRow base 5 1 v acc.length (nums .u8 (byI acc))) (hbase : base ≤ W.heap.size) (hl : acc.length ≤ 1000000000) (hc : 0 ≤ c ∧ c ≤ 255)
    (h : ∀ v1 w1, w1.ownsRow base 5 1 v1 (acc ++ [ofI c]).length (nums .u8 (byI (acc ++ [ofI c]))) → Below base W w1 → wpList Try.prog ops Q rest (a.put o.dst v1) w1) :
    wpList Try.prog ops Q (o :: rest) a (W.alloc (.cells #[.int .u8 c] 5)) := by
  refine print_append_num (w0 := W) base hgd s x 63 5 .u8 1 ho Try.underlying63 info_byte (by decide) v (byI acc) c hs hx (by rw [byI_len]; exact HO) (Below.refl _ _) hbase (by rw [byI_len]; omega) ?_
  intro v1 w1 h1 h2 _ _
  refine h v1 w1 ?_ h2
  rw [byI_snoc, ofI_rng c hc]
  rw [List.length_append, byI_len] at h1
  rw [List.length_append]
  exact h1
end
theorem RefTok_bad {r : RT} {p : Nat} (e : Int) (he : e ≠ 0) (hr : r = .bad e) (k : Int) (t : ByteArray) (a b : Int) : RefTok r p (.returned (.tuple #[.agg #[.int .i64 k, .string t, .int .i64 a, .int .i64 b], .int .i64 e])) := by
  subst hr
  exact ⟨_, _, _, _, rfl, fun h => absurd h he⟩

set_option maxHeartbeats 8000000 in
set_option maxRecDepth 100000 in
theorem ref_literal (s : ByteArray) (p : Nat) (w : World) (hs : s.size ≤ 1000000000) (hp : p < s.size) (r : RT) (hr : Hid (litR (s.data.toList.drop p) = r)) :
    Calls Try.prog 92 #[.string s, .int .i64 p] w fun e w' => RefTok r p e ∧ Below w.heap.size w w' := by
  go_enter Try.func92, Try.ntmps92
  go_wp2
  go_loopw [6, 7] (fun v i wr => ∃ (k : Nat) (acc : List UInt8), i = .int .i64 k ∧ p < k ∧ k ≤ s.size ∧ acc.length < k ∧ wr.ownsRow (w.heap.size + 1) 5 1 v acc.length (nums .u8 (byI acc)) ∧
      wr.heap[w.heap.size]? = some (.cells #[.int .i64 0, .string ⟨#[]⟩, .int .i64 0, .int .i64 0] 33 (0, 0)) ∧ Below w.heap.size w wr ∧ w.heap.size + 2 ≤ wr.heap.size ∧ Hid (litGo (s.data.toList.drop k) (k - p) acc = r)) (fun _ i _ => s.size - (intOf i).toNat)
  case atStart =>
    refine ⟨p + 1, [], by go_num, by omega, by omega, by simp, ?_, (two_blocks _ _ _).1, ((Below.refl _ _).alloc (Nat.le_refl _) _).alloc (by simp) _, by simp, show _ = _ by rw [← hr.out]; unfold litR; rw [List.drop_drop, Nat.add_sub_cancel_left]⟩
    refine ⟨rfl, .inr ⟨w.heap.size + 1, 0, #[], rfl, Nat.le_refl _, (two_blocks _ _ _).2, Nat.le_refl _, by unfold maxLen; omega, rfl, rfl⟩⟩
  case round =>
    obtain ⟨k, acc, rfl, hpk, hk, hal, hown, hc, hbl, hsz, hinv⟩ := hrel
    obtain ⟨A, c, rfl⟩ := own_slice hown
    obtain ⟨z0, z1, z2, z3, f0, f1, f2, f3⟩ := tok4 hc
    have hstr := own_string (dst := 9) Try.underlying63 Try.underlying5 Try.underlying9 hown
    rw [byI_tx] at hstr
    by_cases hlt : k < s.size
    · have hd : Hid (s.data.toList.drop k = s[k] :: s.data.toList.drop (k + 1)) := byte_at s k hlt
      by_cases hq : (s[k].toNat : Int) = 34
      · have hq1 : ((s[k].toNat : Int) != 34) = false := by rw [hq]; rfl
        have HQ := Hid.mk' hq
        clear hq
        go_wp2
        · refine post_res rfl ⟨_, by (simp [results, Try.results92, go_sem, z0, z1, z2, z3]; first | exact ⟨⟨rfl, rfl, rfl, rfl⟩, rfl⟩ | exact ⟨rfl, rfl, rfl, rfl⟩ | rfl), RefTok_bad 4 (by decide) (by rw [← hinv.out, hd.out, litGo_q (by have := HQ.out; omega), if_pos (by omega)]) _ _ _ _, (((hbl.setCell (Nat.le_refl _) _).setCell (Nat.le_refl _) _).setCell (Nat.le_refl _) _).setCell (Nat.le_refl _) _⟩
        · refine post_res rfl ⟨_, by (simp [results, Try.results92, go_sem, z0, z1, z2, z3]; rfl), ?_, (((hbl.setCell (Nat.le_refl _) _).setCell (Nat.le_refl _) _).setCell (Nat.le_refl _) _).setCell (Nat.le_refl _) _⟩
          have hrr : r = ⟨0, 4, acc, k - p + 1⟩ := by rw [← hinv.out, hd.out, litGo_q (by have := HQ.out; omega), if_neg (by omega)]
          subst hrr
          exact ⟨_, _, _, _, rfl, fun _ => ⟨rfl, rfl, rfl, by simp only; omega⟩⟩
      · have hq1 : ((s[k].toNat : Int) != 34) = true := by rw [bne_iff_ne]; exact hq
        have HQ := Hid.mk' hq
        clear hq
        have hB1 : w.heap.size + 1 ≤ wr.heap.size := by omega
        have hal2 : acc.length ≤ 1000000000 := by omega
        go_wp2_with (first
          | (at_builtin; refine app_byte (w.heap.size + 1) rfl _ _ rfl (.slice A acc.length c) acc _ rfl rfl hown hB1 hal2 ?_ ?_; (first | exact byte_rng _ | (constructor <;> omega)); intro v2 w2 hown2 hb2))
        all_goals (try simp only [beq_iff_eq, beq_eq_false_iff_ne, bne_iff_ne, bne_eq_false_iff_eq, ne_eq] at *)
        · refine post_res rfl ⟨_, by (simp [results, Try.results92, go_sem, z0, z1, z2, z3]; first | exact ⟨⟨rfl, rfl, rfl, rfl⟩, rfl⟩ | exact ⟨rfl, rfl, rfl, rfl⟩ | rfl), RefTok_bad 11 (by decide) (by rw [← hinv.out, hd.out, litGo_bad (by have := HQ.out; omega) (by omega)]) _ _ _ _, (((hbl.setCell (Nat.le_refl _) _).setCell (Nat.le_refl _) _).setCell (Nat.le_refl _) _).setCell (Nat.le_refl _) _⟩
        · have hd1 := byte_at s (k + 1) (by omega)
          have hs2 := hb2.size
          go_roundw
          case rel => exact ⟨k + 2, _, by go_num, by omega, by omega, by simp; omega, hown2, below_cells hb2 (Nat.lt_succ_self _) hc, hbl.trans (hb2.mono (Nat.le_succ _)), by omega, show _ = _ by rw [← hinv.out, hd.out, hd1, litGo_esc (by omega) (by omega), show k + 2 - p = k - p + 2 by omega]; rw [ofI_of s[k + 1] 34 (by omega)]⟩
          case measure => simp [intOf]; omega
        · have hd1 := byte_at s (k + 1) (by omega)
          have hs2 := hb2.size
          go_roundw
          case rel => exact ⟨k + 2, _, by go_num, by omega, by omega, by simp; omega, hown2, below_cells hb2 (Nat.lt_succ_self _) hc, hbl.trans (hb2.mono (Nat.le_succ _)), by omega, show _ = _ by rw [← hinv.out, hd.out, hd1, litGo_esc (by omega) (by omega), show k + 2 - p = k - p + 2 by omega]; rw [ofI_of s[k + 1] 92 (by omega)]⟩
          case measure => simp [intOf]; omega
        · refine post_res rfl ⟨_, by (simp [results, Try.results92, go_sem, z0, z1, z2, z3]; first | exact ⟨⟨rfl, rfl, rfl, rfl⟩, rfl⟩ | exact ⟨rfl, rfl, rfl, rfl⟩ | rfl), RefTok_bad 11 (by decide) (by rw [← hinv.out, hd.out, byte_at s (k + 1) (by omega), litGo_escx (by omega) (by omega) (by omega) (by omega)]) _ _ _ _, (((hbl.setCell (Nat.le_refl _) _).setCell (Nat.le_refl _) _).setCell (Nat.le_refl _) _).setCell (Nat.le_refl _) _⟩
        · have hd1 := byte_at s (k + 1) (by omega)
          have hs2 := hb2.size
          go_roundw
          case rel => exact ⟨k + 2, _, by go_num, by omega, by omega, by simp; omega, hown2, below_cells hb2 (Nat.lt_succ_self _) hc, hbl.trans (hb2.mono (Nat.le_succ _)), by omega, show _ = _ by rw [← hinv.out, hd.out, hd1, litGo_escn (by omega) (by omega), show k + 2 - p = k - p + 2 by omega]; rfl⟩
          case measure => simp [intOf]; omega
        · exfalso; omega
        · refine post_res rfl ⟨_, by (simp [results, Try.results92, go_sem, z0, z1, z2, z3]; first | exact ⟨⟨rfl, rfl, rfl, rfl⟩, rfl⟩ | exact ⟨rfl, rfl, rfl, rfl⟩ | rfl), RefTok_bad 11 (by decide) (by rw [← hinv.out, hd.out, List.drop_eq_nil_of_le (show s.data.toList.length ≤ k + 1 by rw [len_data]; omega), litGo_end (by omega)]) _ _ _ _, (((hbl.setCell (Nat.le_refl _) _).setCell (Nat.le_refl _) _).setCell (Nat.le_refl _) _).setCell (Nat.le_refl _) _⟩
        · skip
          have hs2 := hb2.size
          go_roundw
          case rel => exact ⟨k + 1, _, by go_num, by omega, by omega, by simp; omega, hown2, below_cells hb2 (Nat.lt_succ_self _) hc, hbl.trans (hb2.mono (Nat.le_succ _)), by omega, show _ = _ by rw [← hinv.out, hd.out, litGo_ch (by have := HQ.out; omega) (by omega) (by omega) (by omega), show k + 1 - p = k - p + 1 by omega]; rw [ofI_nat]⟩
          case measure => simp [intOf]; omega
        · refine post_res rfl ⟨_, by (simp [results, Try.results92, go_sem, z0, z1, z2, z3]; first | exact ⟨⟨rfl, rfl, rfl, rfl⟩, rfl⟩ | exact ⟨rfl, rfl, rfl, rfl⟩ | rfl), RefTok_bad 11 (by decide) (by rw [← hinv.out, hd.out, litGo_bad (by have := HQ.out; omega) (by omega)]) _ _ _ _, (((hbl.setCell (Nat.le_refl _) _).setCell (Nat.le_refl _) _).setCell (Nat.le_refl _) _).setCell (Nat.le_refl _) _⟩
    · have hd : Hid (s.data.toList.drop k = []) := List.drop_eq_nil_of_le (by rw [len_data]; omega)
      go_wp2
      · refine post_res rfl ⟨_, by (simp [results, Try.results92, go_sem, z0, z1, z2, z3]; first | exact ⟨⟨rfl, rfl, rfl, rfl⟩, rfl⟩ | exact ⟨rfl, rfl, rfl, rfl⟩ | rfl), RefTok_bad 11 (by decide) (by rw [← hinv.out, hd.out, show litGo [] (k - p) acc = .bad 11 from rfl]) _ _ _ _, (((hbl.setCell (Nat.le_refl _) _).setCell (Nat.le_refl _) _).setCell (Nat.le_refl _) _).setCell (Nat.le_refl _) _⟩
end Go.Proofs.Ytlnoadnejefmoaa
