/- The reference's checksum returns the plain checksum. For every row of bytes. -/
import Derived.Test.YtlnoadnejefmoaaCrc
import Derived.Test.YtlnoadnejefmoaaTkProg
import Derived.Deep.QuietTactic
import Derived.BigQuiet
set_option linter.unusedVariables false
set_option linter.unusedSimpArgs false
namespace Go.Proofs.Ytlnoadnejefmoaa
open Go.RowKit Go.Proofs.YtlnoadnejefmoaaW.PrintWords
theorem max32 : IntKind.u32.max = 4294967295 := by decide
set_option maxHeartbeats 1000000 in
theorem ref_take (x c : Nat) (w : World) (hx : x < 4294967296) (hc : c < 256) :
    Calls Try.prog 98 #[.int .u32 x, .int .u8 c] w fun e w' => e = .returned (.int .u32 (crcTake x c : Nat)) ∧ w = w' := by
  have h1 := bits_xor32 x c hx (by omega)
  obtain ⟨z, hz⟩ : ∃ z, x ^^^ c = z := ⟨_, rfl⟩
  have hzl : z < 4294967296 := by rw [← hz]; exact Nat.xor_lt_two_pow (n := 32) hx (by omega)
  obtain ⟨r, hr⟩ : ∃ r, crcTake x c = r := ⟨_, rfl⟩
  rw [hr]
  have HR : Hid (bsteps 8 z = r) := by rw [← hz]; exact hr
  rw [hz] at h1
  clear hr hz
  go_enter Try.func98, Try.ntmps98
  go_wp2
  have H1 := Hid.mk' h1
  clear h1
  go_loop [0, 5] (fun v i => ∃ (k y : Nat), i = .int .i64 k ∧ k ≤ 8 ∧ v = .int .u32 y ∧ y < 4294967296 ∧ Hid (bsteps (8 - k) y = r)) (fun _ i => 8 - (intOf i).toNat)
  case atStart => exact ⟨0, z, rfl, by omega, rfl, hzl, HR.out⟩
  case round =>
    obtain ⟨k, y, rfl, hk, rfl, hy, hinv⟩ := hrel
    by_cases hlt : k < 8
    · have hlti : (k : Int) < 8 := by omega
      have hs : Hid (bsteps (8 - (k + 1)) (bstep y) = r) := by
        have := hinv.out
        rw [show 8 - k = (8 - (k + 1)) + 1 from by omega] at this
        exact this
      have hb := bstep_lt y hy
      by_cases ho : y % 2 = 1
      · have ho1 : ((y : Int) % 2 == 1) = true := by rw [beq_iff_eq]; omega
        have hx1 := bits_xor32 (y / 2) 2197175160 (by omega) (by decide)
        have hx2 : bits .xor .u32 ((y : Int) / 2) 2197175160 = ((bstep y : Nat) : Int) := by
          unfold bstep
          rw [if_pos ho, ← hx1]
          congr 1
        clear hx1
        have HO := Hid.mk' ho
        clear ho
        go_wp2
        have HX := Hid.mk' hx2
        clear hx2
        go_round
        case rel => exact ⟨k + 1, bstep y, by go_num, by omega, rfl, hb, hs.out⟩
        case measure => simp [intOf]; omega
      · have ho1 : ((y : Int) % 2 == 1) = false := by rw [beq_eq_false_iff_ne]; omega
        have he : bstep y = y / 2 := by unfold bstep; rw [if_neg ho]
        have HO := Hid.mk' ho
        have HE := Hid.mk' he
        clear ho he
        go_wp2
        go_round
        case rel => exact ⟨k + 1, bstep y, by go_num, by omega, by rw [HE.out]; rfl, hb, hs.out⟩
        case measure => simp [intOf]; omega
    · go_wp2
      go_ret
      refine ⟨ret_intE ?_, rfl⟩
      have := hinv.out
      rw [show 8 - k = 0 from by omega] at this
      rw [← this]
      rfl
theorem u8_nat (xs : List Int) (h : ∀ x ∈ xs, 0 ≤ x ∧ x < 256) : ∃ l : List Nat, xs = l.map (fun n : Nat => (n : Int)) ∧ ∀ c ∈ l, c < 256 :=
  ⟨xs.map Int.toNat, by
    rw [List.map_map]
    conv => lhs; rw [← List.map_id xs]
    apply List.map_congr_left
    intro x hx
    have := h x hx
    simp
    omega, fun c hc => by
    obtain ⟨x, hx, rfl⟩ := List.mem_map.1 hc
    have := h x hx
    omega⟩
def nats (l : List Nat) : List Int := l.map fun n : Nat => (n : Int)
theorem nats_at {w : World} {A : Option Addr} {n : Nat} {l : List Nat} (h : (Kd.int .u8).C w A n (nats l)) (k : Nat) (hk : k < l.length) : ∃ ad, A = some ad ∧ w.cell? (ad.add k) = some (.int .u8 ((l.getD k 0 : Nat) : Int)) := by
  have hn : (nats l).length = n := h.1
  obtain ⟨ad, e1, e2⟩ := Kd.at_int h (k : Int) (by omega) (by rw [← hn]; unfold nats; rw [List.length_map]; omega)
  refine ⟨ad, e1, ?_⟩
  rw [Int.toNat_natCast] at e2
  rw [e2]
  congr 2
  unfold rd nats
  rw [List.getD_eq_getElem?_getD, Int.toNat_natCast, List.getElem?_map, List.getD_eq_getElem?_getD, List.getElem?_eq_getElem hk]
  rfl
set_option maxHeartbeats 1000000 in
set_option maxRecDepth 100000 in
theorem ref_extend (A : Option Addr) (c : Nat) (l : List Nat) (w : World) (hC : (Kd.int .u8).C w A l.length (nats l)) (hl : ∀ c ∈ l, c < 256) :
    Calls Try.prog 76 #[.int .u32 0, .slice A l.length c] w fun e w' => e = .returned (.int .u32 ((crcOf l : Nat) : Int)) ∧ w = w' := by
  have hm := Kd.C_max hC
  have h1 := bits_max32 0 (by decide)
  go_enter Try.func76, Try.ntmps76
  go_wp2
  rw [show bits BinOp.xor IntKind.u32 IntKind.u32.max 0 = (4294967295 : Int) from h1]
  clear h1
  go_loop [5, 6] (fun v i => ∃ k : Nat, i = .int .i64 k ∧ k ≤ l.length ∧ v = .int .u32 ((crcGo 4294967295 (l.take k) : Nat) : Int)) (fun _ i => l.length - (intOf i).toNat)
  case atStart => exact ⟨0, rfl, by omega, rfl⟩
  case round =>
    obtain ⟨k, rfl, hk, rfl⟩ := hrel
    have hlt2 := crcGo_lt (l.take k) 4294967295 (by decide) (fun d hd => hl d (List.mem_of_mem_take hd))
    obtain ⟨y, hy⟩ : ∃ y, crcGo 4294967295 (l.take k) = y := ⟨_, rfl⟩
    rw [hy] at hlt2 ⊢
    have HY := Hid.mk' hy
    clear hy
    by_cases hlt : k < l.length
    · have hlti : (k : Int) < l.length := by omega
      obtain ⟨ad, rfl, hc⟩ := nats_at hC k hlt
      obtain ⟨d, hd⟩ : ∃ d, l.getD k 0 = d := ⟨_, rfl⟩
      have hd2 : d < 256 := hl d (by rw [← hd, List.getD_eq_getElem?_getD, List.getElem?_eq_getElem hlt]; exact List.getElem_mem hlt)
      rw [hd] at hc
      have hs : Hid (crcGo 4294967295 (l.take (k + 1)) = crcTake y d) := by
        show _ = _
        rw [List.take_succ_eq_append_getElem hlt, crcGo_snoc, HY.out]
        rw [List.getD_eq_getElem?_getD, List.getElem?_eq_getElem hlt] at hd
        simp at hd
        rw [hd]
      clear hd
      go_wp2_with (go_at_call 98; refine (ref_take y d _ hlt2 hd2).mono ?_; rintro e w' ⟨rfl, rfl⟩)
      go_round
      case rel => exact ⟨k + 1, by go_num, by omega, by rw [hs.out]⟩
      case measure => simp [intOf]; omega
    · go_wp2
      go_ret
      refine ⟨ret_intE ?_, rfl⟩
      rw [bits_max32 y hlt2, ← HY.out, List.take_of_length_le (by omega)]
      rfl
theorem ref_sum (A : Option Addr) (c : Nat) (l : List Nat) (w : World) (hC : (Kd.int .u8).C w A l.length (nats l)) (hl : ∀ c ∈ l, c < 256) :
    Calls Try.prog 54 #[.slice A l.length c] w fun e w' => e = .returned (.int .u32 ((crcOf l : Nat) : Int)) ∧ w = w' := by
  go_enter Try.func54, Try.ntmps54
  go_wp2_with (go_at_call 76; refine (ref_extend A c l _ hC hl).mono ?_; rintro e w' ⟨rfl, rfl⟩)
  go_ret
  exact ⟨rfl, rfl⟩
end Go.Proofs.Ytlnoadnejefmoaa
