import Derived.Test.YtlnoadnejefmoaaTokG
import Derived.Test.YtlnoadnejefmoaaPSpec
set_option linter.unusedVariables false
set_option linter.unusedSimpArgs false
namespace Go.Proofs.Ytlnoadnejefmoaa
open Go.RowKit Go.Proofs.YtlnoadnejefmoaaW.PrintWords

/-- A text and whether there is one. -/
def OptRes (r : Option (List UInt8)) (e : Ending) : Prop := ∃ (s : ByteArray) (b : Bool), e = .returned (.tuple #[.string s, .bool b]) ∧ (∀ l, r = some l → s = tx l ∧ b = true) ∧ (r = none → b = false)
theorem OptRes_none (s : ByteArray) : OptRes none (.returned (.tuple #[.string s, .bool false])) := ⟨s, false, rfl, fun l h => by simp at h, fun _ => rfl⟩
theorem OptRes_some (l : List UInt8) : OptRes (some l) (.returned (.tuple #[.string (tx l), .bool true])) := ⟨_, true, rfl, fun l' h => by simp at h; subst h; exact ⟨rfl, rfl⟩, fun h => by simp at h⟩

theorem bld_add (B b : Nat) (l : List UInt8) (s : ByteArray) (w : World) (h : Lib.IsBuilder 79 5 B b (Lib.byteCells l) w) (hl : l.length + s.size ≤ 1000000000) (hB : B ≤ w.heap.size) :
    Calls Try.prog 69 #[.pointer (some ⟨b, 0, none⟩), .string s] w fun e w' => e = .returned (.tuple #[.int .i64 s.size, .nilIface]) ∧ Lib.IsBuilder 79 5 B b (Lib.byteCells (l ++ s.data.toList)) w' ∧ Below B w w' := by
  refine (bld_string B b _ s w h (by rw [Lib.byteCells_length]; omega) hB).mono ?_
  rintro e w' ⟨h1, h2, h3⟩
  refine ⟨h1, .inr ?_, h3⟩
  rw [show Lib.byteCells (l ++ s.data.toList) = Lib.byteCells l ++ Lib.strCells s from by simp [Lib.byteCells, Lib.strCells]]
  exact h2
/-- A new builder. -/
theorem bld_new (w : World) : Lib.IsBuilder 79 5 w.heap.size w.heap.size (Lib.byteCells []) (w.alloc (.cells #[.pointer none, .slice none 0 0] 79)) := by
  refine .inl ⟨Nat.le_refl _, .slice none 0 0, ?_, ⟨by simp, .inl ⟨rfl, rfl⟩⟩, by simp [Value.ownBlock]⟩
  have h := Go.heap_alloc_new w (.cells #[.pointer none, .slice none 0 0] 79)
  simpa using h

set_option maxRecDepth 100000 in
set_option maxHeartbeats 4000000 in
theorem tok_quote (s : ByteArray) (w : World) (r : Option (List UInt8)) (hs : s.size ≤ 1000000000) (hr : Hid (quoteO s.data.toList = r)) :
    Calls Try.prog 66 #[.string s] w fun e w' => OptRes r e ∧ Below w.heap.size w w' := by
  go_enter Try.func66, Try.ntmps66
  by_cases hlong : 60 < s.size
  · have hl1 : (60 : Int) < s.size := by omega
    go_wp2
    go_ret2
    have : r = none := by rw [← hr.out]; unfold quoteO; rw [len_data, if_pos hlong]
    subst this
    exact ⟨OptRes_none _, Below.refl _ _⟩
  · have hl1 : ¬ ((60 : Int) < s.size) := by omega
    go_wp2_with (first
      | (go_at_call 94; refine (bld_put w.heap.size w.heap.size [] _ _ (bld_new w) (by first | exact byte_rng _ | (constructor <;> omega)) (by simp) (by simp)).mono ?_; rintro e w1 ⟨rfl, hB1, hb1⟩))
    have hb1' : Below w.heap.size w w1 := ((Below.refl _ _).alloc (Nat.le_refl _) _).trans hb1
    go_loopw [13] (fun i wr => ∃ (k : Nat) (acc : List UInt8), i = .int .i64 k ∧ k ≤ s.size ∧ acc.length ≤ 1 + 2 * k ∧ Lib.IsBuilder 79 5 w.heap.size w.heap.size (Lib.byteCells acc) wr ∧ Below w.heap.size w wr ∧ Hid ((escO (s.data.toList.drop k)).map (fun e => acc ++ (e ++ [34])) = r)) (fun i _ => s.size - (intOf i).toNat)
    case atStart => exact ⟨0, _, rfl, by omega, by simp, hB1, hb1', show _ = _ by rw [← hr.out]; unfold quoteO; rw [len_data, if_neg hlong, List.drop_zero]; rfl⟩
    case round =>
      obtain ⟨k, acc, rfl, hk, hal, hB, hbl, hinv⟩ := hrel
      by_cases hlt : k < s.size
      · have hd : Hid (s.data.toList.drop k = s[k] :: s.data.toList.drop (k + 1)) := byte_at s k hlt
        have hsz := hbl.size
        by_cases c1 : (s[k].toNat : Int) = 34
        · have q1 : ((s[k].toNat : Int) == 34) = true := by rw [c1]; rfl
          have HC := Hid.mk' c1
          clear c1
          go_wp2_with (first
            | (go_at_call 94; refine (bld_put _ _ _ _ _ hB2 (by first | exact byte_rng _ | (constructor <;> omega)) (by simp; omega) (Nat.le_trans hsz hb2.size)).mono ?_; rintro e w3 ⟨rfl, hB3, hb3⟩)
            | (go_at_call 94; refine (bld_put _ _ _ _ _ hB (by first | exact byte_rng _ | (constructor <;> omega)) (by omega) hsz).mono ?_; rintro e w2 ⟨rfl, hB2, hb2⟩)
            | (go_at_call 69; refine (bld_add _ _ _ ⟨#[92, 110]⟩ _ hB (by show acc.length + 2 ≤ 1000000000; omega) hsz).mono ?_; rintro e w2 ⟨rfl, hB2, hb2⟩))
          go_roundw
          case rel => exact ⟨k + 1, _, by go_num, by omega, by simp; omega, hB3, (hbl.trans hb2).trans hb3, show _ = _ by rw [← hinv.out, hd.out, escO_esc _ _ (by have := HC.out; omega), Option.map_map]; congr 1; funext e; simp [ofI_nat, ofI]⟩
          case measure => simp [intOf]; omega
        · have q1 : ((s[k].toNat : Int) == 34) = false := by rw [beq_eq_false_iff_ne]; exact c1
          by_cases c2 : (s[k].toNat : Int) = 92
          · have q2 : ((s[k].toNat : Int) == 92) = true := by rw [c2]; rfl
            have HC := Hid.mk' c2
            clear c1 c2
            go_wp2_with (first
            | (go_at_call 94; refine (bld_put _ _ _ _ _ hB2 (by first | exact byte_rng _ | (constructor <;> omega)) (by simp; omega) (Nat.le_trans hsz hb2.size)).mono ?_; rintro e w3 ⟨rfl, hB3, hb3⟩)
            | (go_at_call 94; refine (bld_put _ _ _ _ _ hB (by first | exact byte_rng _ | (constructor <;> omega)) (by omega) hsz).mono ?_; rintro e w2 ⟨rfl, hB2, hb2⟩)
            | (go_at_call 69; refine (bld_add _ _ _ ⟨#[92, 110]⟩ _ hB (by show acc.length + 2 ≤ 1000000000; omega) hsz).mono ?_; rintro e w2 ⟨rfl, hB2, hb2⟩))
            go_roundw
            case rel => exact ⟨k + 1, _, by go_num, by omega, by simp; omega, hB3, (hbl.trans hb2).trans hb3, show _ = _ by rw [← hinv.out, hd.out, escO_esc _ _ (by have := HC.out; omega), Option.map_map]; congr 1; funext e; simp [ofI_nat, ofI]⟩
            case measure => simp [intOf]; omega
          · have q2 : ((s[k].toNat : Int) == 92) = false := by rw [beq_eq_false_iff_ne]; exact c2
            by_cases c3 : (s[k].toNat : Int) = 10
            · have q3 : ((s[k].toNat : Int) == 10) = true := by rw [c3]; rfl
              have HC := Hid.mk' c3
              clear c1 c2 c3
              go_wp2_with (first
            | (go_at_call 94; refine (bld_put _ _ _ _ _ hB2 (by first | exact byte_rng _ | (constructor <;> omega)) (by simp; omega) (Nat.le_trans hsz hb2.size)).mono ?_; rintro e w3 ⟨rfl, hB3, hb3⟩)
            | (go_at_call 94; refine (bld_put _ _ _ _ _ hB (by first | exact byte_rng _ | (constructor <;> omega)) (by omega) hsz).mono ?_; rintro e w2 ⟨rfl, hB2, hb2⟩)
            | (go_at_call 69; refine (bld_add _ _ _ ⟨#[92, 110]⟩ _ hB (by show acc.length + 2 ≤ 1000000000; omega) hsz).mono ?_; rintro e w2 ⟨rfl, hB2, hb2⟩))
              go_roundw
              case rel => exact ⟨k + 1, _, by go_num, by omega, by simp; omega, hB2, hbl.trans hb2, show _ = _ by rw [← hinv.out, hd.out, escO_n _ _ (by have := HC.out; omega), Option.map_map]; congr 1; funext e; simp⟩
              case measure => simp [intOf]; omega
            · have q3 : ((s[k].toNat : Int) == 10) = false := by rw [beq_eq_false_iff_ne]; exact c3
              by_cases c4 : (s[k].toNat : Int) < 32
              · have HC : Hid (escO (s[k] :: s.data.toList.drop (k + 1)) = none) := escO_no _ _ (by omega) (by omega)
                clear c1 c2 c3
                go_wp2_with (first
            | (go_at_call 94; refine (bld_put _ _ _ _ _ hB2 (by first | exact byte_rng _ | (constructor <;> omega)) (by simp; omega) (Nat.le_trans hsz hb2.size)).mono ?_; rintro e w3 ⟨rfl, hB3, hb3⟩)
            | (go_at_call 94; refine (bld_put _ _ _ _ _ hB (by first | exact byte_rng _ | (constructor <;> omega)) (by omega) hsz).mono ?_; rintro e w2 ⟨rfl, hB2, hb2⟩)
            | (go_at_call 69; refine (bld_add _ _ _ ⟨#[92, 110]⟩ _ hB (by show acc.length + 2 ≤ 1000000000; omega) hsz).mono ?_; rintro e w2 ⟨rfl, hB2, hb2⟩))
                go_ret2
                have : r = none := by rw [← hinv.out, hd.out, HC.out]; rfl
                subst this
                exact ⟨OptRes_none _, hbl⟩
              · by_cases c5 : 126 < (s[k].toNat : Int)
                · have HC : Hid (escO (s[k] :: s.data.toList.drop (k + 1)) = none) := escO_no _ _ (by omega) (by omega)
                  clear c1 c2 c3
                  go_wp2_with (first
            | (go_at_call 94; refine (bld_put _ _ _ _ _ hB2 (by first | exact byte_rng _ | (constructor <;> omega)) (by simp; omega) (Nat.le_trans hsz hb2.size)).mono ?_; rintro e w3 ⟨rfl, hB3, hb3⟩)
            | (go_at_call 94; refine (bld_put _ _ _ _ _ hB (by first | exact byte_rng _ | (constructor <;> omega)) (by omega) hsz).mono ?_; rintro e w2 ⟨rfl, hB2, hb2⟩)
            | (go_at_call 69; refine (bld_add _ _ _ ⟨#[92, 110]⟩ _ hB (by show acc.length + 2 ≤ 1000000000; omega) hsz).mono ?_; rintro e w2 ⟨rfl, hB2, hb2⟩))
                  go_ret2
                  have : r = none := by rw [← hinv.out, hd.out, HC.out]; rfl
                  subst this
                  exact ⟨OptRes_none _, hbl⟩
                · have HC : Hid (escO (s[k] :: s.data.toList.drop (k + 1)) = (escO (s.data.toList.drop (k + 1))).map fun e => s[k] :: e) := escO_ch _ _ (by omega) (by omega) (by omega) (by omega)
                  clear c1 c2 c3
                  go_wp2_with (first
            | (go_at_call 94; refine (bld_put _ _ _ _ _ hB2 (by first | exact byte_rng _ | (constructor <;> omega)) (by simp; omega) (Nat.le_trans hsz hb2.size)).mono ?_; rintro e w3 ⟨rfl, hB3, hb3⟩)
            | (go_at_call 94; refine (bld_put _ _ _ _ _ hB (by first | exact byte_rng _ | (constructor <;> omega)) (by omega) hsz).mono ?_; rintro e w2 ⟨rfl, hB2, hb2⟩)
            | (go_at_call 69; refine (bld_add _ _ _ ⟨#[92, 110]⟩ _ hB (by show acc.length + 2 ≤ 1000000000; omega) hsz).mono ?_; rintro e w2 ⟨rfl, hB2, hb2⟩))
                  go_roundw
                  case rel => exact ⟨k + 1, _, by go_num, by omega, by simp; omega, hB2, hbl.trans hb2, show _ = _ by rw [← hinv.out, hd.out, HC.out, Option.map_map]; congr 1; funext e; simp [ofI_nat]⟩
                  case measure => simp [intOf]; omega
      · have hsz := hbl.size
        have hd : Hid (s.data.toList.drop k = []) := List.drop_eq_nil_of_le (by rw [len_data]; omega)
        go_wp2_with (first
          | (go_at_call 94; refine (bld_put _ _ _ _ _ hB (by first | exact byte_rng _ | (constructor <;> omega)) (by omega) hsz).mono ?_; rintro e w2 ⟨rfl, hB2, hb2⟩)
          | (go_at_call 70; refine (bld_str _ _ _ _ hB2 (Nat.le_trans hsz hb2.size)).mono ?_; rintro e w3 ⟨rfl, hb3⟩))
        go_ret2
        have : r = some (acc ++ [34]) := by rw [← hinv.out, hd.out]; rfl
        subst this
        exact ⟨OptRes_some _, (hbl.trans hb2).trans hb3⟩
end Go.Proofs.Ytlnoadnejefmoaa
