import Derived.Test.YtlnoadnejefmoaaTokC
import Derived.Test.YtlnoadnejefmoaaBld
set_option linter.unusedVariables false
set_option linter.unusedSimpArgs false
namespace Go.Proofs.Ytlnoadnejefmoaa
open Go.RowKit

theorem below_cells {B : Nat} {w w1 : World} (h : Below B w w1) {b : Nat} (hb : b < B) {o : Obj} (hc : w.heap[b]? = some o) : w1.heap[b]? = some o := by rw [h.block b hb]; exact hc
theorem cell_of {w : World} {b : Nat} {c : Array Value} {t : TypeId} {f : Nat × Nat} (h : w.heap[b]? = some (.cells c t f)) (i : Nat) : w.cell? ⟨b, i, none⟩ = c[i]? := by simp [World.cell?, h]
theorem frozen_of {w : World} {b : Nat} {c : Array Value} {t : TypeId} (h : w.heap[b]? = some (.cells c t (0, 0))) (i : Nat) : w.frozen? ⟨b, i, none⟩ = false := by simp [World.frozen?, h]

theorem tok4 {w : World} {b : Nat} {c0 c1 c2 c3 : Value} {t : TypeId} (h : w.heap[b]? = some (.cells #[c0, c1, c2, c3] t (0, 0))) :
    w.cell? ⟨b, 0, none⟩ = some c0 ∧ w.cell? ⟨b, 1, none⟩ = some c1 ∧ w.cell? ⟨b, 2, none⟩ = some c2 ∧ w.cell? ⟨b, 3, none⟩ = some c3 ∧
      w.frozen? ⟨b, 0, none⟩ = false ∧ w.frozen? ⟨b, 1, none⟩ = false ∧ w.frozen? ⟨b, 2, none⟩ = false ∧ w.frozen? ⟨b, 3, none⟩ = false :=
  ⟨cell_of h 0, cell_of h 1, cell_of h 2, cell_of h 3, frozen_of h 0, frozen_of h 1, frozen_of h 2, frozen_of h 3⟩
theorem two_blocks (w : World) (A B : Obj) : ((w.alloc A).alloc B).heap[w.heap.size]? = some A ∧ ((w.alloc A).alloc B).heap[w.heap.size + 1]? = some B :=
  ⟨(Below.heap_alloc _ _ _ (by simp)).trans (Go.heap_alloc_new _ _), by have h := Go.heap_alloc_new (w.alloc A) B; simpa using h⟩
theorem keep2 {w w1 : World} {A B : Obj} (hb : Below ((w.alloc A).alloc B).heap.size ((w.alloc A).alloc B) w1) : w1.heap[w.heap.size]? = some A ∧ w1.heap[w.heap.size + 1]? = some B ∧ Below w.heap.size w w1 :=
  ⟨below_cells hb (by simp; omega) (two_blocks _ _ _).1, below_cells hb (by simp) (two_blocks _ _ _).2, (((Below.refl _ _).alloc (Nat.le_refl _) _).alloc (by simp) _).trans (hb.mono (by simp; omega))⟩
theorem keep1 {w w1 : World} {A : Obj} (hb : Below (w.alloc A).heap.size (w.alloc A) w1) : w1.heap[w.heap.size]? = some A ∧ Below w.heap.size w w1 :=
  ⟨below_cells hb (by simp) (Go.heap_alloc_new _ _), ((Below.refl _ _).alloc (Nat.le_refl _) _).trans (hb.mono (by simp))⟩
theorem bld_len (B b : Nat) (l : List UInt8) (w : World) (h : Lib.IsBuilder 79 5 B b (Lib.byteCells l) w) :
    Calls Try.prog 103 #[.pointer (some ⟨b, 0, none⟩)] w fun e w' => e = .returned (.int .i64 l.length) ∧ w = w' :=
  (Try.Builder_Len B b _ w h).mono fun e w' ⟨he, hw⟩ => ⟨by rw [he, Lib.byteCells_length], hw.symm⟩
theorem bld_str (B b : Nat) (l : List UInt8) (w : World) (h : Lib.IsBuilder 79 5 B b (Lib.byteCells l) w) (hB : B ≤ w.heap.size) :
    Calls Try.prog 70 #[.pointer (some ⟨b, 0, none⟩)] w fun e w' => e = .returned (.string (tx l)) ∧ Below B w w' :=
  Try.Builder_String_any B b l w h hB
theorem byte_rng (b : UInt8) : 0 ≤ (b.toNat : Int) ∧ (b.toNat : Int) ≤ 255 := by have := b.toNat_lt; omega
def ofI (c : Int) : UInt8 := c.toNat.toUInt8
theorem ofI_nat (b : UInt8) : ofI (b.toNat : Int) = b := by simp [ofI]
theorem ofI_of (b : UInt8) (c : Int) (h : (b.toNat : Int) = c) : ofI c = b := by subst h; exact ofI_nat b
theorem bld_put (B b : Nat) (l : List UInt8) (c : Int) (w : World) (h : Lib.IsBuilder 79 5 B b (Lib.byteCells l) w) (hc : 0 ≤ c ∧ c ≤ 255) (hl : l.length ≤ 1000000000) (hB : B ≤ w.heap.size) :
    Calls Try.prog 94 #[.pointer (some ⟨b, 0, none⟩), .int .u8 c] w fun e w' => e = .returned .nilIface ∧ Lib.IsBuilder 79 5 B b (Lib.byteCells (l ++ [ofI c])) w' ∧ Below B w w' :=
  (bld_byte B b _ c w h (by rw [Lib.byteCells_length]; omega) hB).mono fun e w' ⟨he, h1, h2⟩ => ⟨he, by
    have e1 : ((ofI c).toNat : Int) = c := by
      unfold ofI
      rw [UInt8.toNat_ofNat_of_lt' (by show c.toNat < 256; omega)]
      omega
    rw [show Lib.byteCells (l ++ [ofI c]) = Lib.byteCells l ++ [.int .u8 c] from by rw [← e1]; simp [Lib.byteCells, e1]]
    exact .inr h1, h2⟩

set_option maxRecDepth 100000 in
set_option maxHeartbeats 4000000 in
theorem tok_literal (s : ByteArray) (w : World) (hs : s.size ≤ 1000000000) (h0 : 0 < s.size) :
    Calls Try.prog 86 #[.string s] w fun e w' => e = tokRet (litR s.data.toList) ∧ Below w.heap.size w w' := by
  go_enter Try.func86, Try.ntmps86
  go_wp2
  go_loopw [5] (fun i wr => ∃ (k : Nat) (acc : List UInt8), i = .int .i64 k ∧ k ≤ s.size ∧ acc.length < k ∧ Lib.IsBuilder 79 5 (w.heap.size + 1) (w.heap.size + 1) (Lib.byteCells acc) wr ∧
      wr.heap[w.heap.size]? = some (.cells #[.int .i64 0, .string ⟨#[]⟩, .int .i64 0, .int .i64 0] 33 (0, 0)) ∧ Below w.heap.size w wr ∧ w.heap.size + 2 ≤ wr.heap.size ∧ Hid (litGo (s.data.toList.drop k) k acc = litR s.data.toList)) (fun i _ => s.size - (intOf i).toNat)
  case atStart =>
    refine ⟨1, [], rfl, by omega, by simp, ?_, ?_, ?_, ?_, show _ = _ from rfl⟩
    · refine .inl ⟨Nat.le_refl _, .slice none 0 0, ?_, ⟨by simp, .inl ⟨rfl, rfl⟩⟩, by simp [Value.ownBlock]⟩
      have h := Go.heap_alloc_new (w.alloc (.cells #[.int .i64 0, .string ⟨#[]⟩, .int .i64 0, .int .i64 0] 33)) (.cells #[.pointer none, .slice none 0 0] 79)
      simpa using h
    · exact (Below.heap_alloc _ _ _ (by simp)).trans (Go.heap_alloc_new _ _)
    · exact ((Below.refl _ _).alloc (Nat.le_refl _) _).alloc (by simp) _
    · simp
  case round =>
    obtain ⟨k, acc, rfl, hk, hal, hB, hc, hbl, hsz, hinv⟩ := hrel
    by_cases hlt : k < s.size
    · have hd : Hid (s.data.toList.drop k = s[k] :: s.data.toList.drop (k + 1)) := byte_at s k hlt
      have z0 := cell_of hc 0
      have z1 := cell_of hc 1
      have z2 := cell_of hc 2
      have z3 := cell_of hc 3
      have f0 := frozen_of hc 0
      have f1 := frozen_of hc 1
      have f2 := frozen_of hc 2
      have f3 := frozen_of hc 3
      simp at z0 z1 z2 z3
      go_wp2_with (first
        | (go_at_call 103; refine (bld_len _ _ _ _ hB).mono ?_; rintro e w' ⟨rfl, rfl⟩)
        | (go_at_call 70; refine (bld_str _ _ _ _ hB (by omega)).mono ?_; rintro e w1 ⟨rfl, hb1⟩; have hc1 := below_cells hb1 (Nat.lt_succ_self _) hc; have y0 := cell_of hc1 0; have y1 := cell_of hc1 1; have y2 := cell_of hc1 2; have y3 := cell_of hc1 3; have g0 := frozen_of hc1 0; have g1 := frozen_of hc1 1; have g2 := frozen_of hc1 2; have g3 := frozen_of hc1 3; simp at y0 y1 y2 y3)
        | (go_at_call 94; refine (bld_put _ _ _ _ _ hB (by first | exact byte_rng _ | (constructor <;> omega)) (by omega) (by omega)).mono ?_; rintro e w1 ⟨rfl, hB1, hb1⟩))
      all_goals (try simp only [beq_iff_eq, beq_eq_false_iff_ne, ne_eq] at *)
      · refine post_res rfl ⟨_, by (simp [results, Try.results86, go_sem, z0, z1, z2, z3]; rfl), ?_, (((hbl.setCell (Nat.le_refl _) _).setCell (Nat.le_refl _) _).setCell (Nat.le_refl _) _).setCell (Nat.le_refl _) _⟩
        rw [← hinv.out, hd.out, litGo_q (by omega), if_pos (by omega)]
        rfl
      · refine post_res rfl ⟨_, by (simp [results, Try.results86, go_sem, y0, y1, y2, y3]; rfl), ?_, ((((hbl.trans (hb1.mono (Nat.le_succ _))).setCell (Nat.le_refl _) _).setCell (Nat.le_refl _) _).setCell (Nat.le_refl _) _).setCell (Nat.le_refl _) _⟩
        rw [← hinv.out, hd.out, litGo_q (by omega), if_neg (by omega)]
        rfl
      · refine post_res rfl ⟨_, by (simp [results, Try.results86, go_sem, z0, z1, z2, z3]; rfl), ?_, (((hbl.setCell (Nat.le_refl _) _).setCell (Nat.le_refl _) _).setCell (Nat.le_refl _) _).setCell (Nat.le_refl _) _⟩
        rw [← hinv.out, hd.out, litGo_bad (by omega) (by omega)]
        rfl
      · have hd1 := byte_at s (k + 1) (by omega)
        go_roundw
        case rel => exact ⟨k + 2, _, by go_num, by omega, by simp; omega, hB1, below_cells hb1 (Nat.lt_succ_self _) hc, hbl.trans (hb1.mono (Nat.le_succ _)), by have := hb1.size; omega, show _ = _ by rw [← hinv.out, hd.out, hd1, litGo_esc (by omega) (by omega)]; rw [ofI_of s[k + 1] 34 (by omega)]⟩
        case measure => simp [intOf]; omega
      · have hd1 := byte_at s (k + 1) (by omega)
        go_roundw
        case rel => exact ⟨k + 2, _, by go_num, by omega, by simp; omega, hB1, below_cells hb1 (Nat.lt_succ_self _) hc, hbl.trans (hb1.mono (Nat.le_succ _)), by have := hb1.size; omega, show _ = _ by rw [← hinv.out, hd.out, hd1, litGo_esc (by omega) (by omega)]; simp only [ofI_nat]⟩
        case measure => simp [intOf]; omega
      · have hd1 := byte_at s (k + 1) (by omega)
        go_roundw
        case rel => exact ⟨k + 2, _, by go_num, by omega, by simp; omega, hB1, below_cells hb1 (Nat.lt_succ_self _) hc, hbl.trans (hb1.mono (Nat.le_succ _)), by have := hb1.size; omega, show _ = _ by rw [← hinv.out, hd.out, hd1, litGo_escn (by omega) (by omega)]; rfl⟩
        case measure => simp [intOf]; omega
      · refine post_res rfl ⟨_, by (simp [results, Try.results86, go_sem, z0, z1, z2, z3]; rfl), ?_, (((hbl.setCell (Nat.le_refl _) _).setCell (Nat.le_refl _) _).setCell (Nat.le_refl _) _).setCell (Nat.le_refl _) _⟩
        rw [← hinv.out, hd.out, byte_at s (k + 1) (by omega), litGo_escx (by omega) (by omega) (by omega) (by omega)]
        rfl
      · refine post_res rfl ⟨_, by (simp [results, Try.results86, go_sem, z0, z1, z2, z3]; rfl), ?_, (((hbl.setCell (Nat.le_refl _) _).setCell (Nat.le_refl _) _).setCell (Nat.le_refl _) _).setCell (Nat.le_refl _) _⟩
        rw [← hinv.out, hd.out, List.drop_eq_nil_of_le (show s.data.toList.length ≤ k + 1 by rw [len_data]; omega), litGo_end (by omega)]
        rfl
      · go_roundw
        case rel => exact ⟨k + 1, _, by go_num, by omega, by simp; omega, hB1, below_cells hb1 (Nat.lt_succ_self _) hc, hbl.trans (hb1.mono (Nat.le_succ _)), by have := hb1.size; omega, show _ = _ by rw [← hinv.out, hd.out, litGo_ch (by omega) (by omega) (by omega) (by omega)]; simp only [ofI_nat]⟩
        case measure => simp [intOf]; omega
      · refine post_res rfl ⟨_, by (simp [results, Try.results86, go_sem, z0, z1, z2, z3]; rfl), ?_, (((hbl.setCell (Nat.le_refl _) _).setCell (Nat.le_refl _) _).setCell (Nat.le_refl _) _).setCell (Nat.le_refl _) _⟩
        rw [← hinv.out, hd.out, litGo_bad (by omega) (by omega)]
        rfl
    · have hd : Hid (s.data.toList.drop k = []) := List.drop_eq_nil_of_le (by rw [len_data]; omega)
      have z0 := cell_of hc 0
      have z1 := cell_of hc 1
      have z2 := cell_of hc 2
      have z3 := cell_of hc 3
      have f0 := frozen_of hc 0
      have f1 := frozen_of hc 1
      have f2 := frozen_of hc 2
      have f3 := frozen_of hc 3
      simp at z0 z1 z2 z3
      go_wp2
      refine post_res rfl ⟨_, by (simp [results, Try.results86, go_sem, z0, z1, z2, z3]; rfl), ?_, (((hbl.setCell (Nat.le_refl _) _).setCell (Nat.le_refl _) _).setCell (Nat.le_refl _) _).setCell (Nat.le_refl _) _⟩
      rw [← hinv.out, hd.out]
      rfl
end Go.Proofs.Ytlnoadnejefmoaa
