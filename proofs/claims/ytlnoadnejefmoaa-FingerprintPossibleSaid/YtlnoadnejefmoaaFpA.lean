/- The checksum: program and reference, by bits; the features of a node and of a pair. Strings of at most 1000000000 bytes. -/
import Derived.Test.YtlnoadnejefmoaaTkPlain
import Derived.Laws.BitsLemmas
import Derived.Test.YtlnoadnejefmoaaTkProg
import Derived.Deep.QuietTactic
import Derived.BigQuiet
import Derived.Outline
import Derived.Lib.ConvBytes
import Derived.Test.YtlnoadnejefmoaaWRepsOne
set_option linter.unusedVariables false
set_option linter.unusedSimpArgs false
namespace Go.Proofs.Ytlnoadnejefmoaa

/-- A step of the register. -/
def bstep (x : Nat) : Nat := if x % 2 = 1 then (x / 2) ^^^ 2197175160 else x / 2
def bsteps : Nat → Nat → Nat
  | 0, x => x
  | n + 1, x => bsteps n (bstep x)
theorem bsteps_add (a b x : Nat) : bsteps (a + b) x = bsteps b (bsteps a x) := by
  induction a generalizing x with
  | zero => rw [Nat.zero_add]; rfl
  | succ a ih => rw [Nat.succ_add]; exact ih _
theorem bsteps_snoc (n x : Nat) : bsteps (n + 1) x = bstep (bsteps n x) := bsteps_add n 1 x
theorem xor_half (a b : Nat) : (a ^^^ b) / 2 = (a / 2) ^^^ (b / 2) := by
  have := Nat.shiftRight_xor_distrib (a := a) (b := b) (i := 1)
  simpa [Nat.shiftRight_eq_div_pow] using this
theorem xor_odd (a b : Nat) : (a ^^^ b) % 2 = (a % 2 + b % 2) % 2 := by
  have h := Nat.xor_mod_two_pow (a := a) (b := b) (n := 1)
  rw [Nat.pow_one] at h
  rw [h]
  rcases Nat.mod_two_eq_zero_or_one a with ha | ha <;> rcases Nat.mod_two_eq_zero_or_one b with hb | hb <;> rw [ha, hb] <;> rfl
theorem bstep_xor (a b : Nat) : bstep (a ^^^ b) = bstep a ^^^ bstep b := by
  unfold bstep
  rw [xor_half]
  have h := xor_odd a b
  rcases Nat.mod_two_eq_zero_or_one a with ha | ha <;> rcases Nat.mod_two_eq_zero_or_one b with hb | hb
  · rw [if_neg (by omega), if_neg (by omega), if_neg (by omega)]
  · rw [if_pos (by omega), if_neg (by omega), if_pos (by omega), Nat.xor_assoc]
  · rw [if_pos (by omega), if_pos (by omega), if_neg (by omega), Nat.xor_assoc, Nat.xor_comm (b / 2), ← Nat.xor_assoc]
  · rw [if_neg (by omega), if_pos (by omega), if_pos (by omega), Nat.xor_assoc, ← Nat.xor_assoc 2197175160, Nat.xor_comm 2197175160, Nat.xor_assoc (b / 2), Nat.xor_self, Nat.xor_zero]
theorem bsteps_xor (n a b : Nat) : bsteps n (a ^^^ b) = bsteps n a ^^^ bsteps n b := by
  induction n generalizing a b with
  | zero => rfl
  | succ n ih => show bsteps n (bstep _) = _; rw [bstep_xor]; exact ih _ _
theorem bstep_even (y : Nat) : bstep (2 * y) = y := by unfold bstep; rw [if_neg (by omega)]; omega
theorem split16 (x : Nat) : x = (16 * (x / 16)) ^^^ (x % 16) := by
  apply Nat.eq_of_testBit_eq
  intro i
  rw [Nat.testBit_xor, show (16 : Nat) = 2 ^ 4 from rfl, Nat.testBit_two_pow_mul, Nat.testBit_mod_two_pow, Nat.testBit_div_two_pow]
  by_cases h : 4 ≤ i
  · rw [show i - 4 + 4 = i from by omega]
    simp [h, show ¬ i < 4 by omega]
  · simp [h, show i < 4 by omega]
/-- Four steps, by the table. -/
theorem bsteps4 (x : Nat) : bsteps 4 x = (x / 16) ^^^ bsteps 4 (x % 16) := by
  conv => lhs; rw [split16 x]
  rw [bsteps_xor]
  congr 1
  show bstep (bstep (bstep (bstep _))) = _
  rw [show 16 * (x / 16) = 2 * (2 * (2 * (2 * (x / 16)))) from by omega, bstep_even, bstep_even, bstep_even, bstep_even]
def crcTake (x c : Nat) : Nat := bsteps 8 (x ^^^ c)
theorem crcTake_two (x c : Nat) : crcTake x c = bsteps 4 (bsteps 4 (x ^^^ c)) := bsteps_add 4 4 _
theorem bstep_lt (x : Nat) (h : x < 4294967296) : bstep x < 4294967296 := by
  unfold bstep
  split
  · exact Nat.xor_lt_two_pow (n := 32) (by omega) (by omega)
  · omega
theorem bsteps_lt (n x : Nat) (h : x < 4294967296) : bsteps n x < 4294967296 := by
  induction n generalizing x with
  | zero => exact h
  | succ n ih => exact ih _ (bstep_lt x h)
theorem crcTake_lt (x c : Nat) (h : x < 4294967296) (hc : c < 256) : crcTake x c < 4294967296 := bsteps_lt 8 _ (Nat.xor_lt_two_pow (n := 32) h (by omega))
def crcGo (x : Nat) (l : List Nat) : Nat := l.foldl crcTake x
def crcOf (l : List Nat) : Nat := 4294967295 ^^^ crcGo 4294967295 l
theorem crcGo_lt : ∀ (l : List Nat) (x : Nat), x < 4294967296 → (∀ c ∈ l, c < 256) → crcGo x l < 4294967296
  | [], x, h, _ => h
  | c :: t, x, h, hc => crcGo_lt t _ (crcTake_lt x c h (hc c (by simp))) (fun d hd => hc d (by simp [hd]))
theorem bits_xor32 (a b : Nat) (ha : a < 4294967296) (hb : b < 4294967296) : bits .xor .u32 (a : Int) (b : Int) = ((a ^^^ b : Nat) : Int) := by
  have hx : a ^^^ b < 4294967296 := Nat.xor_lt_two_pow (n := 32) ha hb
  have ha' : a % 2 ^ IntKind.u32.bits = a := Nat.mod_eq_of_lt ha
  have hb' : b % 2 ^ IntKind.u32.bits = b := Nat.mod_eq_of_lt hb
  simp only [bits, BitVec.ofInt_natCast, BitVec.toNat_xor, BitVec.toNat_ofNat, ha', hb']
  rw [IntKind.wrap_u32]
  omega
theorem bits_max32 (a : Nat) (ha : a < 4294967296) : bits .xor .u32 IntKind.u32.max (a : Int) = ((4294967295 ^^^ a : Nat) : Int) := bits_xor32 4294967295 a (by decide) ha
theorem crcOf_lt (l : List Nat) (h : ∀ c ∈ l, c < 256) : crcOf l < 4294967296 := Nat.xor_lt_two_pow (n := 32) (by decide) (crcGo_lt l _ (by decide) h)
theorem crcGo_snoc (x : Nat) (l : List Nat) (c : Nat) : crcGo x (l ++ [c]) = crcTake (crcGo x l) c := by unfold crcGo; rw [List.foldl_append]; rfl
theorem bits_and15 (a : Nat) (ha : a < 4294967296) : bits .and .u32 (a : Int) 15 = ((a % 16 : Nat) : Int) := by
  have h := (bits_nat .u32 32 (by decide) (fun n h0 h1 => by rw [IntKind.wrap_u32]; omega) a 15 ha (by decide)).1
  refine h.trans ?_
  rw [show (15 : Nat) = 2 ^ 4 - 1 from rfl, Nat.and_two_pow_sub_one_eq_mod]
theorem bits_and1 (a : Nat) (ha : a < 4294967296) : bits .and .u32 (a : Int) 1 = ((a % 2 : Nat) : Int) := by
  have h := (bits_nat .u32 32 (by decide) (fun n h0 h1 => by rw [IntKind.wrap_u32]; omega) a 1 ha (by decide)).1
  refine h.trans ?_
  rw [show (1 : Nat) = 2 ^ 1 - 1 from rfl, Nat.and_two_pow_sub_one_eq_mod]
end Go.Proofs.Ytlnoadnejefmoaa
set_option linter.unusedVariables false
set_option linter.unusedSimpArgs false
namespace Go.Proofs.Ytlnoadnejefmoaa
open Go.RowKit Go.Proofs.YtlnoadnejefmoaaW.PrintWords
theorem max32 : IntKind.u32.max = 4294967295 := by decide
set_option maxHeartbeats 1000000 in
theorem ref_take (x c : Nat) (w : World) (hx : x < 4294967296) (hc : c < 256) :
    Calls Try.prog 98 #[.int .u32 x, .int .u8 c] w fun e w' => e = .returned (.int .u32 (crcTake x c : Nat)) ∧ w = w' := by
  have h1 := bits_xor32 x c hx (by omega)
  obtain ⟨z, hz⟩ : ∃ z, x ^^^ c = z := ⟨_, rfl⟩
  have hzl : z < 4294967296 := by rw [← hz]; exact Nat.xor_lt_two_pow (n := 32) hx (by omega)
  obtain ⟨r, hr⟩ : ∃ r, crcTake x c = r := ⟨_, rfl⟩
  rw [hr]
  have HR : Hid (bsteps 8 z = r) := by rw [← hz]; exact hr
  rw [hz] at h1
  clear hr hz
  go_enter Try.func98, Try.ntmps98
  go_wp2
  have H1 := Hid.mk' h1
  clear h1
  go_loop [0, 5] (fun v i => ∃ (k y : Nat), i = .int .i64 k ∧ k ≤ 8 ∧ v = .int .u32 y ∧ y < 4294967296 ∧ Hid (bsteps (8 - k) y = r)) (fun _ i => 8 - (intOf i).toNat)
  case atStart => exact ⟨0, z, rfl, by omega, rfl, hzl, HR.out⟩
  case round =>
    obtain ⟨k, y, rfl, hk, rfl, hy, hinv⟩ := hrel
    by_cases hlt : k < 8
    · have hlti : (k : Int) < 8 := by omega
      have hs : Hid (bsteps (8 - (k + 1)) (bstep y) = r) := by
        have := hinv.out
        rw [show 8 - k = (8 - (k + 1)) + 1 from by omega] at this
        exact this
      have hb := bstep_lt y hy
      by_cases ho : y % 2 = 1
      · have ho1 : ((y : Int) % 2 == 1) = true := by rw [beq_iff_eq]; omega
        have hx1 := bits_xor32 (y / 2) 2197175160 (by omega) (by decide)
        have hx2 : bits .xor .u32 ((y : Int) / 2) 2197175160 = ((bstep y : Nat) : Int) := by
          unfold bstep
          rw [if_pos ho, ← hx1]
          congr 1
        clear hx1
        have HO := Hid.mk' ho
        clear ho
        go_wp2
        have HX := Hid.mk' hx2
        clear hx2
        go_round
        case rel => exact ⟨k + 1, bstep y, by go_num, by omega, rfl, hb, hs.out⟩
        case measure => simp [intOf]; omega
      · have ho1 : ((y : Int) % 2 == 1) = false := by rw [beq_eq_false_iff_ne]; omega
        have he : bstep y = y / 2 := by unfold bstep; rw [if_neg ho]
        have HO := Hid.mk' ho
        have HE := Hid.mk' he
        clear ho he
        go_wp2
        go_round
        case rel => exact ⟨k + 1, bstep y, by go_num, by omega, by rw [HE.out]; rfl, hb, hs.out⟩
        case measure => simp [intOf]; omega
    · go_wp2
      go_ret
      refine ⟨ret_intE ?_, rfl⟩
      have := hinv.out
      rw [show 8 - k = 0 from by omega] at this
      rw [← this]
      rfl
theorem u8_nat (xs : List Int) (h : ∀ x ∈ xs, 0 ≤ x ∧ x < 256) : ∃ l : List Nat, xs = l.map (fun n : Nat => (n : Int)) ∧ ∀ c ∈ l, c < 256 :=
  ⟨xs.map Int.toNat, by
    rw [List.map_map]
    conv => lhs; rw [← List.map_id xs]
    apply List.map_congr_left
    intro x hx
    have := h x hx
    simp
    omega, fun c hc => by
    obtain ⟨x, hx, rfl⟩ := List.mem_map.1 hc
    have := h x hx
    omega⟩
def nats (l : List Nat) : List Int := l.map fun n : Nat => (n : Int)
theorem nats_at {w : World} {A : Option Addr} {n : Nat} {l : List Nat} (h : (Kd.int .u8).C w A n (nats l)) (k : Nat) (hk : k < l.length) : ∃ ad, A = some ad ∧ w.cell? (ad.add k) = some (.int .u8 ((l.getD k 0 : Nat) : Int)) := by
  have hn : (nats l).length = n := h.1
  obtain ⟨ad, e1, e2⟩ := Kd.at_int h (k : Int) (by omega) (by rw [← hn]; unfold nats; rw [List.length_map]; omega)
  refine ⟨ad, e1, ?_⟩
  rw [Int.toNat_natCast] at e2
  rw [e2]
  congr 2
  unfold rd nats
  rw [List.getD_eq_getElem?_getD, Int.toNat_natCast, List.getElem?_map, List.getD_eq_getElem?_getD, List.getElem?_eq_getElem hk]
  rfl
set_option maxHeartbeats 1000000 in
set_option maxRecDepth 100000 in
theorem ref_extend (A : Option Addr) (c : Nat) (l : List Nat) (w : World) (hC : (Kd.int .u8).C w A l.length (nats l)) (hl : ∀ c ∈ l, c < 256) :
    Calls Try.prog 76 #[.int .u32 0, .slice A l.length c] w fun e w' => e = .returned (.int .u32 ((crcOf l : Nat) : Int)) ∧ w = w' := by
  have hm := Kd.C_max hC
  have h1 := bits_max32 0 (by decide)
  go_enter Try.func76, Try.ntmps76
  go_wp2
  rw [show bits BinOp.xor IntKind.u32 IntKind.u32.max 0 = (4294967295 : Int) from h1]
  clear h1
  go_loop [5, 6] (fun v i => ∃ k : Nat, i = .int .i64 k ∧ k ≤ l.length ∧ v = .int .u32 ((crcGo 4294967295 (l.take k) : Nat) : Int)) (fun _ i => l.length - (intOf i).toNat)
  case atStart => exact ⟨0, rfl, by omega, rfl⟩
  case round =>
    obtain ⟨k, rfl, hk, rfl⟩ := hrel
    have hlt2 := crcGo_lt (l.take k) 4294967295 (by decide) (fun d hd => hl d (List.mem_of_mem_take hd))
    obtain ⟨y, hy⟩ : ∃ y, crcGo 4294967295 (l.take k) = y := ⟨_, rfl⟩
    rw [hy] at hlt2 ⊢
    have HY := Hid.mk' hy
    clear hy
    by_cases hlt : k < l.length
    · have hlti : (k : Int) < l.length := by omega
      obtain ⟨ad, rfl, hc⟩ := nats_at hC k hlt
      obtain ⟨d, hd⟩ : ∃ d, l.getD k 0 = d := ⟨_, rfl⟩
      have hd2 : d < 256 := hl d (by rw [← hd, List.getD_eq_getElem?_getD, List.getElem?_eq_getElem hlt]; exact List.getElem_mem hlt)
      rw [hd] at hc
      have hs : Hid (crcGo 4294967295 (l.take (k + 1)) = crcTake y d) := by
        show _ = _
        rw [List.take_succ_eq_append_getElem hlt, crcGo_snoc, HY.out]
        rw [List.getD_eq_getElem?_getD, List.getElem?_eq_getElem hlt] at hd
        simp at hd
        rw [hd]
      clear hd
      go_wp2_with (go_at_call 98; refine (ref_take y d _ hlt2 hd2).mono ?_; rintro e w' ⟨rfl, rfl⟩)
      go_round
      case rel => exact ⟨k + 1, by go_num, by omega, by rw [hs.out]⟩
      case measure => simp [intOf]; omega
    · go_wp2
      go_ret
      refine ⟨ret_intE ?_, rfl⟩
      rw [bits_max32 y hlt2, ← HY.out, List.take_of_length_le (by omega)]
      rfl
theorem ref_sum (A : Option Addr) (c : Nat) (l : List Nat) (w : World) (hC : (Kd.int .u8).C w A l.length (nats l)) (hl : ∀ c ∈ l, c < 256) :
    Calls Try.prog 54 #[.slice A l.length c] w fun e w' => e = .returned (.int .u32 ((crcOf l : Nat) : Int)) ∧ w = w' := by
  go_enter Try.func54, Try.ntmps54
  go_wp2_with (go_at_call 76; refine (ref_extend A c l _ hC hl).mono ?_; rintro e w' ⟨rfl, rfl⟩)
  go_ret
  exact ⟨rfl, rfl⟩
end Go.Proofs.Ytlnoadnejefmoaa
set_option linter.unusedVariables false
set_option linter.unusedSimpArgs false
namespace Go.Proofs.Ytlnoadnejefmoaa
open Go.RowKit Go.Proofs.YtlnoadnejefmoaaW.PrintWords
def tabL : List Nat := [0, 274646895, 549293790, 820201905, 1098587580, 1361435347, 1640403810, 1905808397, 2197175160, 2460548119, 2722870694, 2987750089, 3280807620, 3553878443, 3811616794, 4084100981]
def tabV (k : Nat) : Array Value := ((List.range 16).map fun i => Value.int .u32 ((if i < k then tabL.getD i 0 else 0 : Nat) : Int)).toArray
theorem tabL_is : ∀ i, i < 16 → tabL.getD i 0 = bsteps 4 i := by decide
theorem tabL_lt : ∀ i, i < 16 → tabL.getD i 0 < 4294967296 := by decide
theorem tabV_set (k : Nat) (hk : k < 16) : (tabV k).setIfInBounds k (.int .u32 ((bsteps 4 k : Nat) : Int)) = tabV (k + 1) := by
  unfold tabV
  apply Array.ext
  · simp
  · intro i h1 h2
    simp at h1 h2
    rw [Array.getElem_setIfInBounds (by simpa using h1)]
    simp only [List.getElem_toArray, List.getElem_map, List.getElem_range]
    split
    · rename_i h
      subst h
      rw [if_pos (by omega), tabL_is _ hk]
    · by_cases h : i < k
      · rw [if_pos h, if_pos (by omega)]
      · rw [if_neg h, if_neg (by omega)]
theorem tabV_get (k i : Nat) (hi : i < 16) : (tabV k)[i]? = some (.int .u32 ((if i < k then tabL.getD i 0 else 0 : Nat) : Int)) := by
  unfold tabV
  rw [List.getElem?_toArray, List.getElem?_map, List.getElem?_range hi]
  rfl
theorem tabV_0 : tabV 0 = #[.int .u32 0, .int .u32 0, .int .u32 0, .int .u32 0, .int .u32 0, .int .u32 0, .int .u32 0, .int .u32 0, .int .u32 0, .int .u32 0, .int .u32 0, .int .u32 0, .int .u32 0, .int .u32 0, .int .u32 0, .int .u32 0] := by rfl
theorem tabV_16 : tabV 16 = #[.int .u32 0, .int .u32 274646895, .int .u32 549293790, .int .u32 820201905, .int .u32 1098587580, .int .u32 1361435347, .int .u32 1640403810, .int .u32 1905808397, .int .u32 2197175160, .int .u32 2460548119, .int .u32 2722870694, .int .u32 2987750089, .int .u32 3280807620, .int .u32 3553878443, .int .u32 3811616794, .int .u32 4084100981] := by rfl
set_option maxHeartbeats 4000000 in
set_option maxRecDepth 100000 in
theorem crc_table (w : World) : Calls Try.prog 97 #[] w fun e w' => e = .returned (.agg #[.int .u32 0, .int .u32 274646895, .int .u32 549293790, .int .u32 820201905, .int .u32 1098587580, .int .u32 1361435347, .int .u32 1640403810, .int .u32 1905808397, .int .u32 2197175160, .int .u32 2460548119, .int .u32 2722870694, .int .u32 2987750089, .int .u32 3280807620, .int .u32 3553878443, .int .u32 3811616794, .int .u32 4084100981]) ∧ Below w.heap.size w w' := by
  go_enter Try.func97, Try.ntmps97
  go_wp2
  go_loopw [4] (fun i wr => ∃ k : Nat, i = .int .i64 k ∧ k ≤ 16 ∧ Below w.heap.size w wr ∧ w.heap.size + 2 = wr.heap.size ∧ Hid (wr.heap[w.heap.size]? = some (.cells #[.int .u32 0, .int .u32 0, .int .u32 0, .int .u32 0, .int .u32 0, .int .u32 0, .int .u32 0, .int .u32 0, .int .u32 0, .int .u32 0, .int .u32 0, .int .u32 0, .int .u32 0, .int .u32 0, .int .u32 0, .int .u32 0] 94 (0, 0)) ∧ wr.heap[w.heap.size + 1]? = some (.cells (tabV k) 94 (0, 0)))) (fun i _ => 16 - (intOf i).toNat)
  case atStart =>
    refine ⟨0, rfl, by omega, ((Below.refl _ _).alloc (Nat.le_refl _) _).alloc (by simp) _, by simp, ?_, ?_⟩
    · exact blk_alloc (Go.heap_alloc_new w _) _
    · have := Go.heap_alloc_new (w.alloc (.cells #[.int .u32 0, .int .u32 0, .int .u32 0, .int .u32 0, .int .u32 0, .int .u32 0, .int .u32 0, .int .u32 0, .int .u32 0, .int .u32 0, .int .u32 0, .int .u32 0, .int .u32 0, .int .u32 0, .int .u32 0, .int .u32 0] 94)) (.cells #[.int .u32 0, .int .u32 0, .int .u32 0, .int .u32 0, .int .u32 0, .int .u32 0, .int .u32 0, .int .u32 0, .int .u32 0, .int .u32 0, .int .u32 0, .int .u32 0, .int .u32 0, .int .u32 0, .int .u32 0, .int .u32 0] 94)
      rw [tabV_0]
      simpa using this
  case round =>
    obtain ⟨k, rfl, hk, hbl, hsz, hb⟩ := hrel
    by_cases hlt : k < 16
    · have hlti : (k : Int) < 16 := by omega
      have c1 : wr.cell? ⟨w.heap.size + 1, k, none⟩ = some (.int .u32 0) := by
        rw [blk_cell hb.out.2 k, tabV_get k k hlt, if_neg (by omega)]; rfl
      have c2 : wr.frozen? ⟨w.heap.size + 1, k, none⟩ = false := blk_frozen hb.out.2 k
      go_wp2
      go_loop [3, 9] (fun v i => ∃ (j y : Nat), i = .int .i64 j ∧ j ≤ 4 ∧ v = .int .u32 y ∧ y < 4294967296 ∧ Hid (bsteps (4 - j) y = bsteps 4 k)) (fun _ i => 4 - (intOf i).toNat)
      case atStart => exact ⟨0, k, rfl, by omega, rfl, by omega, rfl⟩
      case round =>
        obtain ⟨j, y, rfl, hj, rfl, hy, hinv⟩ := hrel
        by_cases hjt : j < 4
        · have hjti : (j : Int) < 4 := by omega
          have hs : Hid (bsteps (4 - (j + 1)) (bstep y) = bsteps 4 k) := by
            have := hinv.out
            rw [show 4 - j = (4 - (j + 1)) + 1 from by omega] at this
            exact this
          have hb1 := bstep_lt y hy
          have ha := bits_and1 y hy
          by_cases ho : y % 2 = 1
          · have ho1 : (bits .and .u32 (y : Int) 1 == 1) = true := by rw [ha, ho]; rfl
            have hx1 := bits_xor32 (y / 2) 2197175160 (by omega) (by decide)
            have hx2 : bits .xor .u32 ((y : Int) / 2) 2197175160 = ((bstep y : Nat) : Int) := by
              unfold bstep
              rw [if_pos ho, ← hx1]
              congr 1
            clear hx1 ha
            have HO := Hid.mk' ho
            clear ho
            go_wp2
            have HX := Hid.mk' hx2
            clear hx2
            go_round
            case rel => exact ⟨j + 1, bstep y, by go_num, by omega, rfl, hb1, hs.out⟩
            case measure => simp [intOf]; omega
          · have ho1 : (bits .and .u32 (y : Int) 1 == 1) = false := by rw [ha, beq_eq_false_iff_ne]; omega
            have he : bstep y = y / 2 := by unfold bstep; rw [if_neg ho]
            have HO := Hid.mk' ho
            have HE := Hid.mk' he
            clear ho he ha
            go_wp2
            go_round
            case rel => exact ⟨j + 1, bstep y, by go_num, by omega, by rw [HE.out]; rfl, hb1, hs.out⟩
            case measure => simp [intOf]; omega
        · have hy2 : bsteps 4 k = y := by
            have := hinv.out
            rw [show 4 - j = 0 from by omega] at this
            exact this.symm
          have HY := Hid.mk' hy2
          clear hy2
          go_wp2
          go_roundw
          case rel => exact ⟨k + 1, by go_num, by omega, hbl.setCell (by show w.heap.size ≤ w.heap.size + 1; omega) _, by simpa using hsz, blk_far hb.out.1 (by show w.heap.size ≠ w.heap.size + 1; omega) _, blk_put hb.out.2 k _ (by rw [← HY.out]; exact tabV_set k hlt)⟩
          case measure => simp [intOf]; omega
    · have hk16 : k = 16 := by omega
      subst hk16
      obtain ⟨h0, h1⟩ := hb.out
      rw [tabV_16] at h1
      have r0 : wr.cell? ⟨w.heap.size + 1, 0, none⟩ = some (.int .u32 0) := blk_cell h1 0
      have r1 : wr.cell? ⟨w.heap.size + 1, 1, none⟩ = some (.int .u32 274646895) := blk_cell h1 1
      have r2 : wr.cell? ⟨w.heap.size + 1, 2, none⟩ = some (.int .u32 549293790) := blk_cell h1 2
      have r3 : wr.cell? ⟨w.heap.size + 1, 3, none⟩ = some (.int .u32 820201905) := blk_cell h1 3
      have r4 : wr.cell? ⟨w.heap.size + 1, 4, none⟩ = some (.int .u32 1098587580) := blk_cell h1 4
      have r5 : wr.cell? ⟨w.heap.size + 1, 5, none⟩ = some (.int .u32 1361435347) := blk_cell h1 5
      have r6 : wr.cell? ⟨w.heap.size + 1, 6, none⟩ = some (.int .u32 1640403810) := blk_cell h1 6
      have r7 : wr.cell? ⟨w.heap.size + 1, 7, none⟩ = some (.int .u32 1905808397) := blk_cell h1 7
      have r8 : wr.cell? ⟨w.heap.size + 1, 8, none⟩ = some (.int .u32 2197175160) := blk_cell h1 8
      have r9 : wr.cell? ⟨w.heap.size + 1, 9, none⟩ = some (.int .u32 2460548119) := blk_cell h1 9
      have r10 : wr.cell? ⟨w.heap.size + 1, 10, none⟩ = some (.int .u32 2722870694) := blk_cell h1 10
      have r11 : wr.cell? ⟨w.heap.size + 1, 11, none⟩ = some (.int .u32 2987750089) := blk_cell h1 11
      have r12 : wr.cell? ⟨w.heap.size + 1, 12, none⟩ = some (.int .u32 3280807620) := blk_cell h1 12
      have r13 : wr.cell? ⟨w.heap.size + 1, 13, none⟩ = some (.int .u32 3553878443) := blk_cell h1 13
      have r14 : wr.cell? ⟨w.heap.size + 1, 14, none⟩ = some (.int .u32 3811616794) := blk_cell h1 14
      have r15 : wr.cell? ⟨w.heap.size + 1, 15, none⟩ = some (.int .u32 4084100981) := blk_cell h1 15
      have q0 : wr.cell? ⟨w.heap.size, 0, none⟩ = some (.int .u32 0) := blk_cell h0 0
      have f0 : wr.frozen? ⟨w.heap.size, 0, none⟩ = false := blk_frozen h0 0
      have q1 : wr.cell? ⟨w.heap.size, 1, none⟩ = some (.int .u32 0) := blk_cell h0 1
      have f1 : wr.frozen? ⟨w.heap.size, 1, none⟩ = false := blk_frozen h0 1
      have q2 : wr.cell? ⟨w.heap.size, 2, none⟩ = some (.int .u32 0) := blk_cell h0 2
      have f2 : wr.frozen? ⟨w.heap.size, 2, none⟩ = false := blk_frozen h0 2
      have q3 : wr.cell? ⟨w.heap.size, 3, none⟩ = some (.int .u32 0) := blk_cell h0 3
      have f3 : wr.frozen? ⟨w.heap.size, 3, none⟩ = false := blk_frozen h0 3
      have q4 : wr.cell? ⟨w.heap.size, 4, none⟩ = some (.int .u32 0) := blk_cell h0 4
      have f4 : wr.frozen? ⟨w.heap.size, 4, none⟩ = false := blk_frozen h0 4
      have q5 : wr.cell? ⟨w.heap.size, 5, none⟩ = some (.int .u32 0) := blk_cell h0 5
      have f5 : wr.frozen? ⟨w.heap.size, 5, none⟩ = false := blk_frozen h0 5
      have q6 : wr.cell? ⟨w.heap.size, 6, none⟩ = some (.int .u32 0) := blk_cell h0 6
      have f6 : wr.frozen? ⟨w.heap.size, 6, none⟩ = false := blk_frozen h0 6
      have q7 : wr.cell? ⟨w.heap.size, 7, none⟩ = some (.int .u32 0) := blk_cell h0 7
      have f7 : wr.frozen? ⟨w.heap.size, 7, none⟩ = false := blk_frozen h0 7
      have q8 : wr.cell? ⟨w.heap.size, 8, none⟩ = some (.int .u32 0) := blk_cell h0 8
      have f8 : wr.frozen? ⟨w.heap.size, 8, none⟩ = false := blk_frozen h0 8
      have q9 : wr.cell? ⟨w.heap.size, 9, none⟩ = some (.int .u32 0) := blk_cell h0 9
      have f9 : wr.frozen? ⟨w.heap.size, 9, none⟩ = false := blk_frozen h0 9
      have q10 : wr.cell? ⟨w.heap.size, 10, none⟩ = some (.int .u32 0) := blk_cell h0 10
      have f10 : wr.frozen? ⟨w.heap.size, 10, none⟩ = false := blk_frozen h0 10
      have q11 : wr.cell? ⟨w.heap.size, 11, none⟩ = some (.int .u32 0) := blk_cell h0 11
      have f11 : wr.frozen? ⟨w.heap.size, 11, none⟩ = false := blk_frozen h0 11
      have q12 : wr.cell? ⟨w.heap.size, 12, none⟩ = some (.int .u32 0) := blk_cell h0 12
      have f12 : wr.frozen? ⟨w.heap.size, 12, none⟩ = false := blk_frozen h0 12
      have q13 : wr.cell? ⟨w.heap.size, 13, none⟩ = some (.int .u32 0) := blk_cell h0 13
      have f13 : wr.frozen? ⟨w.heap.size, 13, none⟩ = false := blk_frozen h0 13
      have q14 : wr.cell? ⟨w.heap.size, 14, none⟩ = some (.int .u32 0) := blk_cell h0 14
      have f14 : wr.frozen? ⟨w.heap.size, 14, none⟩ = false := blk_frozen h0 14
      have q15 : wr.cell? ⟨w.heap.size, 15, none⟩ = some (.int .u32 0) := blk_cell h0 15
      have f15 : wr.frozen? ⟨w.heap.size, 15, none⟩ = false := blk_frozen h0 15
      have HB := Hid.mk' h0
      clear h0 h1 hb
      go_wp2
      refine bodyPost_ret (results_cell_row rfl _ _ w.heap.size 94 #[.int .u32 0, .int .u32 274646895, .int .u32 549293790, .int .u32 820201905, .int .u32 1098587580, .int .u32 1361435347, .int .u32 1640403810, .int .u32 1905808397, .int .u32 2197175160, .int .u32 2460548119, .int .u32 2722870694, .int .u32 2987750089, .int .u32 3280807620, .int .u32 3553878443, .int .u32 3811616794, .int .u32 4084100981] (0, 0) _ rfl ?_ Try.underlying94 rfl (by kernel_rfl)) rfl ⟨rfl, ?_⟩
      · skip
        refine blk_put (cs := #[.int .u32 0, .int .u32 274646895, .int .u32 549293790, .int .u32 820201905, .int .u32 1098587580, .int .u32 1361435347, .int .u32 1640403810, .int .u32 1905808397, .int .u32 2197175160, .int .u32 2460548119, .int .u32 2722870694, .int .u32 2987750089, .int .u32 3280807620, .int .u32 3553878443, .int .u32 3811616794, .int .u32 0]) ?_ 15 _ rfl
        refine blk_put (cs := #[.int .u32 0, .int .u32 274646895, .int .u32 549293790, .int .u32 820201905, .int .u32 1098587580, .int .u32 1361435347, .int .u32 1640403810, .int .u32 1905808397, .int .u32 2197175160, .int .u32 2460548119, .int .u32 2722870694, .int .u32 2987750089, .int .u32 3280807620, .int .u32 3553878443, .int .u32 0, .int .u32 0]) ?_ 14 _ rfl
        refine blk_put (cs := #[.int .u32 0, .int .u32 274646895, .int .u32 549293790, .int .u32 820201905, .int .u32 1098587580, .int .u32 1361435347, .int .u32 1640403810, .int .u32 1905808397, .int .u32 2197175160, .int .u32 2460548119, .int .u32 2722870694, .int .u32 2987750089, .int .u32 3280807620, .int .u32 0, .int .u32 0, .int .u32 0]) ?_ 13 _ rfl
        refine blk_put (cs := #[.int .u32 0, .int .u32 274646895, .int .u32 549293790, .int .u32 820201905, .int .u32 1098587580, .int .u32 1361435347, .int .u32 1640403810, .int .u32 1905808397, .int .u32 2197175160, .int .u32 2460548119, .int .u32 2722870694, .int .u32 2987750089, .int .u32 0, .int .u32 0, .int .u32 0, .int .u32 0]) ?_ 12 _ rfl
        refine blk_put (cs := #[.int .u32 0, .int .u32 274646895, .int .u32 549293790, .int .u32 820201905, .int .u32 1098587580, .int .u32 1361435347, .int .u32 1640403810, .int .u32 1905808397, .int .u32 2197175160, .int .u32 2460548119, .int .u32 2722870694, .int .u32 0, .int .u32 0, .int .u32 0, .int .u32 0, .int .u32 0]) ?_ 11 _ rfl
        refine blk_put (cs := #[.int .u32 0, .int .u32 274646895, .int .u32 549293790, .int .u32 820201905, .int .u32 1098587580, .int .u32 1361435347, .int .u32 1640403810, .int .u32 1905808397, .int .u32 2197175160, .int .u32 2460548119, .int .u32 0, .int .u32 0, .int .u32 0, .int .u32 0, .int .u32 0, .int .u32 0]) ?_ 10 _ rfl
        refine blk_put (cs := #[.int .u32 0, .int .u32 274646895, .int .u32 549293790, .int .u32 820201905, .int .u32 1098587580, .int .u32 1361435347, .int .u32 1640403810, .int .u32 1905808397, .int .u32 2197175160, .int .u32 0, .int .u32 0, .int .u32 0, .int .u32 0, .int .u32 0, .int .u32 0, .int .u32 0]) ?_ 9 _ rfl
        refine blk_put (cs := #[.int .u32 0, .int .u32 274646895, .int .u32 549293790, .int .u32 820201905, .int .u32 1098587580, .int .u32 1361435347, .int .u32 1640403810, .int .u32 1905808397, .int .u32 0, .int .u32 0, .int .u32 0, .int .u32 0, .int .u32 0, .int .u32 0, .int .u32 0, .int .u32 0]) ?_ 8 _ rfl
        refine blk_put (cs := #[.int .u32 0, .int .u32 274646895, .int .u32 549293790, .int .u32 820201905, .int .u32 1098587580, .int .u32 1361435347, .int .u32 1640403810, .int .u32 0, .int .u32 0, .int .u32 0, .int .u32 0, .int .u32 0, .int .u32 0, .int .u32 0, .int .u32 0, .int .u32 0]) ?_ 7 _ rfl
        refine blk_put (cs := #[.int .u32 0, .int .u32 274646895, .int .u32 549293790, .int .u32 820201905, .int .u32 1098587580, .int .u32 1361435347, .int .u32 0, .int .u32 0, .int .u32 0, .int .u32 0, .int .u32 0, .int .u32 0, .int .u32 0, .int .u32 0, .int .u32 0, .int .u32 0]) ?_ 6 _ rfl
        refine blk_put (cs := #[.int .u32 0, .int .u32 274646895, .int .u32 549293790, .int .u32 820201905, .int .u32 1098587580, .int .u32 0, .int .u32 0, .int .u32 0, .int .u32 0, .int .u32 0, .int .u32 0, .int .u32 0, .int .u32 0, .int .u32 0, .int .u32 0, .int .u32 0]) ?_ 5 _ rfl
        refine blk_put (cs := #[.int .u32 0, .int .u32 274646895, .int .u32 549293790, .int .u32 820201905, .int .u32 0, .int .u32 0, .int .u32 0, .int .u32 0, .int .u32 0, .int .u32 0, .int .u32 0, .int .u32 0, .int .u32 0, .int .u32 0, .int .u32 0, .int .u32 0]) ?_ 4 _ rfl
        refine blk_put (cs := #[.int .u32 0, .int .u32 274646895, .int .u32 549293790, .int .u32 0, .int .u32 0, .int .u32 0, .int .u32 0, .int .u32 0, .int .u32 0, .int .u32 0, .int .u32 0, .int .u32 0, .int .u32 0, .int .u32 0, .int .u32 0, .int .u32 0]) ?_ 3 _ rfl
        refine blk_put (cs := #[.int .u32 0, .int .u32 274646895, .int .u32 0, .int .u32 0, .int .u32 0, .int .u32 0, .int .u32 0, .int .u32 0, .int .u32 0, .int .u32 0, .int .u32 0, .int .u32 0, .int .u32 0, .int .u32 0, .int .u32 0, .int .u32 0]) ?_ 2 _ rfl
        refine blk_put (cs := #[.int .u32 0, .int .u32 0, .int .u32 0, .int .u32 0, .int .u32 0, .int .u32 0, .int .u32 0, .int .u32 0, .int .u32 0, .int .u32 0, .int .u32 0, .int .u32 0, .int .u32 0, .int .u32 0, .int .u32 0, .int .u32 0]) ?_ 1 _ rfl
        refine blk_put (cs := #[.int .u32 0, .int .u32 0, .int .u32 0, .int .u32 0, .int .u32 0, .int .u32 0, .int .u32 0, .int .u32 0, .int .u32 0, .int .u32 0, .int .u32 0, .int .u32 0, .int .u32 0, .int .u32 0, .int .u32 0, .int .u32 0]) ?_ 0 _ rfl
        exact HB.out
      exact Below.setCell (p := ⟨w.heap.size, 15, none⟩) (Below.setCell (p := ⟨w.heap.size, 14, none⟩) (Below.setCell (p := ⟨w.heap.size, 13, none⟩) (Below.setCell (p := ⟨w.heap.size, 12, none⟩) (Below.setCell (p := ⟨w.heap.size, 11, none⟩) (Below.setCell (p := ⟨w.heap.size, 10, none⟩) (Below.setCell (p := ⟨w.heap.size, 9, none⟩) (Below.setCell (p := ⟨w.heap.size, 8, none⟩) (Below.setCell (p := ⟨w.heap.size, 7, none⟩) (Below.setCell (p := ⟨w.heap.size, 6, none⟩) (Below.setCell (p := ⟨w.heap.size, 5, none⟩) (Below.setCell (p := ⟨w.heap.size, 4, none⟩) (Below.setCell (p := ⟨w.heap.size, 3, none⟩) (Below.setCell (p := ⟨w.heap.size, 2, none⟩) (Below.setCell (p := ⟨w.heap.size, 1, none⟩) (Below.setCell (p := ⟨w.heap.size, 0, none⟩) (hbl) (Nat.le_refl _) _) (Nat.le_refl _) _) (Nat.le_refl _) _) (Nat.le_refl _) _) (Nat.le_refl _) _) (Nat.le_refl _) _) (Nat.le_refl _) _) (Nat.le_refl _) _) (Nat.le_refl _) _) (Nat.le_refl _) _) (Nat.le_refl _) _) (Nat.le_refl _) _) (Nat.le_refl _) _) (Nat.le_refl _) _) (Nat.le_refl _) _) (Nat.le_refl _) _
/-- A place of the table. -/
theorem tab_at (z : Nat) : (#[.int .u32 0, .int .u32 274646895, .int .u32 549293790, .int .u32 820201905, .int .u32 1098587580, .int .u32 1361435347, .int .u32 1640403810, .int .u32 1905808397, .int .u32 2197175160, .int .u32 2460548119, .int .u32 2722870694, .int .u32 2987750089, .int .u32 3280807620, .int .u32 3553878443, .int .u32 3811616794, .int .u32 4084100981] : Array Value)[z % 16]? = some (.int .u32 ((bsteps 4 (z % 16) : Nat) : Int)) := by
  rw [← tabV_16, tabV_get 16 _ (Nat.mod_lt _ (by decide)), if_pos (Nat.mod_lt _ (by decide)), tabL_is _ (Nat.mod_lt _ (by decide))]
theorem half_xor (y z : Nat) (hy : y < 4294967296) : bits .xor .u32 (((y : Nat) : Int) / 16) ((bsteps 4 (y % 16) : Nat) : Int) = ((bsteps 4 y : Nat) : Int) := by
  rw [bsteps4 y, ← bits_xor32 (y / 16) (bsteps 4 (y % 16)) (by omega) (bsteps_lt 4 _ (by omega))]
  congr 1
set_option maxHeartbeats 4000000 in
set_option maxRecDepth 100000 in
theorem crc_extend (A : Option Addr) (c : Nat) (l : List Nat) (w : World) (hC : (Kd.int .u8).C w A l.length (nats l)) (hl : ∀ c ∈ l, c < 256) :
    Calls Try.prog 75 #[.int .u32 0, .slice A l.length c] w fun e w' => e = .returned (.int .u32 ((crcOf l : Nat) : Int)) ∧ Below w.heap.size w w' := by
  have hm := Kd.C_max hC
  have h1 := bits_max32 0 (by decide)
  go_enter Try.func75, Try.ntmps75
  go_wp2_with (go_at_call 97; refine (crc_table _).mono ?_; rintro e w1 ⟨rfl, hb1⟩)
  rw [show bits BinOp.xor IntKind.u32 IntKind.u32.max 0 = (4294967295 : Int) from h1]
  clear h1
  have hw1 : w1.heap.size ≤ (w1.alloc (.cells #[.int .u32 0, .int .u32 274646895, .int .u32 549293790, .int .u32 820201905, .int .u32 1098587580, .int .u32 1361435347, .int .u32 1640403810, .int .u32 1905808397, .int .u32 2197175160, .int .u32 2460548119, .int .u32 2722870694, .int .u32 2987750089, .int .u32 3280807620, .int .u32 3553878443, .int .u32 3811616794, .int .u32 4084100981] 94)).heap.size := by simp
  go_loopw [6, 14] (fun v i wr => ∃ k : Nat, i = .int .i64 k ∧ k ≤ l.length ∧ v = .int .u32 ((crcGo 4294967295 (l.take k) : Nat) : Int) ∧ Below w.heap.size w wr ∧ Hid (wr.heap[w1.heap.size]? = some (.cells #[.int .u32 0, .int .u32 274646895, .int .u32 549293790, .int .u32 820201905, .int .u32 1098587580, .int .u32 1361435347, .int .u32 1640403810, .int .u32 1905808397, .int .u32 2197175160, .int .u32 2460548119, .int .u32 2722870694, .int .u32 2987750089, .int .u32 3280807620, .int .u32 3553878443, .int .u32 3811616794, .int .u32 4084100981] 94 (0, 0)))) (fun _ i _ => l.length - (intOf i).toNat)
  case atStart => exact ⟨0, rfl, by omega, rfl, hb1.alloc hb1.size _, Go.heap_alloc_new _ _⟩
  case round =>
    obtain ⟨k, rfl, hk, rfl, hbl, hT⟩ := hrel
    have hlt2 := crcGo_lt (l.take k) 4294967295 (by decide) (fun d hd => hl d (List.mem_of_mem_take hd))
    obtain ⟨y, hy⟩ : ∃ y, crcGo 4294967295 (l.take k) = y := ⟨_, rfl⟩
    rw [hy] at hlt2 ⊢
    have HY := Hid.mk' hy
    clear hy
    by_cases hlt : k < l.length
    · have hlti : (k : Int) < l.length := by omega
      obtain ⟨ad, rfl, hc⟩ := nats_at (Kd.C_below hC hbl) k hlt
      obtain ⟨d, hd⟩ : ∃ d, l.getD k 0 = d := ⟨_, rfl⟩
      have hd2 : d < 256 := hl d (by rw [← hd, List.getD_eq_getElem?_getD, List.getElem?_eq_getElem hlt]; exact List.getElem_mem hlt)
      rw [hd] at hc
      have hs : Hid (crcGo 4294967295 (l.take (k + 1)) = crcTake y d) := by
        show _ = _
        rw [List.take_succ_eq_append_getElem hlt, crcGo_snoc, HY.out]
        rw [List.getD_eq_getElem?_getD, List.getElem?_eq_getElem hlt] at hd
        simp at hd
        rw [hd]
      clear hd
      obtain ⟨z, hz⟩ : ∃ z, y ^^^ d = z := ⟨_, rfl⟩
      have hzl : z < 4294967296 := by rw [← hz]; exact Nat.xor_lt_two_pow (n := 32) hlt2 (by omega)
      obtain ⟨z2, hz2⟩ : ∃ z2, bsteps 4 z = z2 := ⟨_, rfl⟩
      have hz2l : z2 < 4294967296 := by rw [← hz2]; exact bsteps_lt 4 z hzl
      obtain ⟨z3, hz3⟩ : ∃ z3, bsteps 4 z2 = z3 := ⟨_, rfl⟩
      have hfin : Hid (crcTake y d = z3) := by rw [← hz3, ← hz2, ← hz]; exact crcTake_two y d
      obtain ⟨m1, hm1⟩ : ∃ m, z % 16 = m := ⟨_, rfl⟩
      obtain ⟨m2, hm2⟩ : ∃ m, z2 % 16 = m := ⟨_, rfl⟩
      have hm1l : m1 < 16 := by omega
      have hm2l : m2 < 16 := by omega
      have t1 : wr.cell? ⟨w1.heap.size, m1, none⟩ = some (.int .u32 ((bsteps 4 m1 : Nat) : Int)) := by rw [blk_cell hT.out, ← hm1]; exact tab_at z
      have t2 : wr.cell? ⟨w1.heap.size, m2, none⟩ = some (.int .u32 ((bsteps 4 m2 : Nat) : Int)) := by rw [blk_cell hT.out, ← hm2]; exact tab_at z2
      obtain ⟨v1, hv1⟩ : ∃ v, bsteps 4 m1 = v := ⟨_, rfl⟩
      obtain ⟨v2, hv2⟩ : ∃ v, bsteps 4 m2 = v := ⟨_, rfl⟩
      rw [hv1] at t1
      rw [hv2] at t2
      have x0 : bits .xor .u32 (y : Int) (d : Int) = ((z : Nat) : Int) := by rw [bits_xor32 y d hlt2 (by omega), hz]
      have x1 : bits .and .u32 (z : Int) 15 = ((m1 : Nat) : Int) := by rw [bits_and15 z hzl, hm1]
      have x2 : bits .xor .u32 ((z : Int) / 16) ((v1 : Nat) : Int) = ((z2 : Nat) : Int) := by rw [← hv1, ← hm1, half_xor z z hzl, hz2]
      have x3 : bits .and .u32 (z2 : Int) 15 = ((m2 : Nat) : Int) := by rw [bits_and15 z2 hz2l, hm2]
      have x4 : bits .xor .u32 ((z2 : Int) / 16) ((v2 : Nat) : Int) = ((z3 : Nat) : Int) := by rw [← hv2, ← hm2, half_xor z2 z2 hz2l, hz3]
      clear hz hz2 hz3 hm1 hm2 hv1 hv2
      go_wp2
      have X := Hid.mk' (And.intro x0 (And.intro x1 (And.intro x2 (And.intro x3 x4))))
      clear x0 x1 x2 x3 x4
      go_roundw
      case rel => exact ⟨k + 1, by go_num, by omega, by rw [hs.out, hfin.out], hbl, hT.out⟩
      case measure => simp [intOf]; omega
    · go_wp2
      go_ret
      refine ⟨ret_intE ?_, hbl⟩
      rw [bits_max32 y hlt2, ← HY.out, List.take_of_length_le (by omega)]
      rfl
theorem crc_sum (A : Option Addr) (c : Nat) (l : List Nat) (w : World) (h : (Kd.int .u8).C w A l.length (nats l)) (hl : ∀ c ∈ l, c < 256) :
    Calls Try.prog 53 #[.slice A l.length c] w fun e w' => e = .returned (.int .u32 ((crcOf l : Nat) : Int)) ∧ Below w.heap.size w w' := by
  go_enter Try.func53, Try.ntmps53
  go_wp2_with (go_at_call 75; refine (crc_extend A c l _ h hl).mono ?_; rintro e w' ⟨rfl, hb⟩)
  go_ret
  exact ⟨rfl, hb⟩
end Go.Proofs.Ytlnoadnejefmoaa
set_option linter.unusedVariables false
set_option linter.unusedSimpArgs false
namespace Go.Proofs.Ytlnoadnejefmoaa
open Go.RowKit Go.Proofs.YtlnoadnejefmoaaW.PrintWords
def crcI (xs : List Int) : Int := ((crcOf (xs.map Int.toNat) : Nat) : Int)
def bytesL (xs : List Int) : Prop := ∀ x ∈ xs, 0 ≤ x ∧ x < 256
theorem nats_toNat (xs : List Int) (h : bytesL xs) : nats (xs.map Int.toNat) = xs := by
  unfold nats
  rw [List.map_map]
  conv => rhs; rw [← List.map_id xs]
  apply List.map_congr_left
  intro x hx
  have := h x hx
  simp
  omega
theorem crcI_range (xs : List Int) (h : bytesL xs) : 0 ≤ crcI xs ∧ crcI xs < 4294967296 := by
  have := crcOf_lt (xs.map Int.toNat) (fun c hc => by
    obtain ⟨x, hx, rfl⟩ := List.mem_map.1 hc
    have := h x hx
    omega)
  unfold crcI
  omega
theorem crc_sumI (A : Option Addr) (c : Nat) (xs : List Int) (w : World) (h : (Kd.int .u8).C w A xs.length xs) (hb : bytesL xs) :
    Calls Try.prog 53 #[.slice A xs.length c] w fun e w' => e = .returned (.int .u32 (crcI xs)) ∧ Below w.heap.size w w' := by
  have := crc_sum A c (xs.map Int.toNat) w (by rw [nats_toNat xs hb, List.length_map]; exact h) (fun d hd => by
    obtain ⟨x, hx, rfl⟩ := List.mem_map.1 hd
    have := hb x hx
    omega)
  rw [List.length_map] at this
  exact this
theorem ref_sumI (A : Option Addr) (c : Nat) (xs : List Int) (w : World) (h : (Kd.int .u8).C w A xs.length xs) (hb : bytesL xs) :
    Calls Try.prog 54 #[.slice A xs.length c] w fun e w' => e = .returned (.int .u32 (crcI xs)) ∧ w = w' := by
  have := ref_sum A c (xs.map Int.toNat) w (by rw [nats_toNat xs hb, List.length_map]; exact h) (fun d hd => by
    obtain ⟨x, hx, rfl⟩ := List.mem_map.1 hd
    have := hb x hx
    omega)
  rw [List.length_map] at this
  exact this
theorem info_u8 : (Try.prog.info? 5).map (fun i => (i.zero, i.size, i.bytes)) = some (some (.int .u8 0), 1, 1) := by kernel_rfl
theorem bytesL_bytes (s : ByteArray) : bytesL (bytesOf s) := fun x hx => by
  unfold bytesOf at hx
  obtain ⟨c, _, rfl⟩ := List.mem_map.1 hx
  have := c.toNat_lt
  omega
theorem bytesL_app {a b : List Int} (ha : bytesL a) (hb : bytesL b) : bytesL (a ++ b) := fun x hx => (List.mem_append.1 hx).elim (ha x) (hb x)
theorem bytesL_one (a : Int) : bytesL [a % 256] := fun x hx => by rw [List.mem_singleton.1 hx]; omega
/-- The feature of a node; of a pair. -/
def nodeB (a : Int) (s : ByteArray) : List Int := [a % 256] ++ bytesOf s
def pairB (a : Int) (s : ByteArray) (b : Int) (t : ByteArray) : List Int := [a % 256] ++ bytesOf s ++ [0, b % 256] ++ bytesOf t
theorem nodeB_ok (a : Int) (s : ByteArray) : bytesL (nodeB a s) := bytesL_app (bytesL_one a) (bytesL_bytes s)
theorem pairB_ok (a : Int) (s : ByteArray) (b : Int) (t : ByteArray) : bytesL (pairB a s b t) := bytesL_app (bytesL_app (nodeB_ok a s) (fun x hx => by
  rcases List.mem_cons.1 hx with rfl | hx
  · omega
  · rw [List.mem_singleton.1 hx]; omega)) (bytesL_bytes t)
def nodeF (a : Int) (s : ByteArray) : Int := crcI (nodeB a s)
def pairF (a : Int) (s : ByteArray) (b : Int) (t : ByteArray) : Int := 4294967296 + crcI (pairB a s b t)
set_option maxHeartbeats 2000000 in
set_option maxRecDepth 100000 in
theorem fp_node (a : Int) (s : ByteArray) (w : World) (hs : s.size ≤ 1000000000) :
    Calls Try.prog 28 #[.int .i64 a, .string s] w fun e w' => e = .returned (.int .i64 (nodeF a s)) ∧ Below w.heap.size w w' := by
  obtain ⟨hr1, hr2⟩ := crcI_range _ (nodeB_ok a s)
  obtain ⟨r, hr⟩ : ∃ r, crcI (nodeB a s) = r := ⟨_, rfl⟩
  have HR := Hid.mk' hr
  unfold nodeF
  rw [hr] at hr1 hr2 ⊢
  clear hr
  go_enter Try.func28, Try.ntmps28
  go_wp2_with (first
    | ((with_reducible refine gate_dst (N := 7) rfl ?_); refine Kd.R_lit (Kd.int .u8) w.heap.size 5 ?hg (N := 7) ?hd (xs := [a % 256]) (inner := [.int .u8 (a % 256)]) (ok := fun _ => True) (okp := fun _ => True) ?hr ?hp (fun _ hk => hk) trivial (Below.refl _ _) (Nat.le_refl _) (by simp) ?_; (case hd => rfl); (case hg => rfl); (case hr => first | (go_simp; done) | (go_simp; rfl)); (case hp => exact (Reps.one (show Kd.M (Kd.int .u8) _ _ _ (a % 256) [.int .u8 (a % 256)] from rfl) (Reps.none _ _))); intro v1 w1 ho1 hb1 _ _)
    | (at_builtin; refine print_append_str (w0 := w) w.heap.size rfl (.tmp 7) _ 63 9 5 rfl Try.underlying63 Try.underlying9 info_u8 v1 [a % 256] s rfl rfl (Kd.own_of_R ho1) hb1 hb1.size (by simp; omega) ?_; intro v2 w2 o2 hb2 _; have ho2 := Kd.R_of_own (h1 := fun _ => rfl) (ok := fun _ => True) o2 (fun _ _ => trivial); change Kd.R (Kd.int .u8) _ w2 w.heap.size (fun _ => True) v2 (nodeB a s) at ho2; clear o2; obtain ⟨A2, c2, rfl⟩ := Kd.R_slice ho2)
    | (go_at_call 53; refine (crc_sumI A2 c2 (nodeB a s) _ (Kd.R_reads' ho2).2.2 (nodeB_ok a s)).mono ?_; rw [HR.out]; rintro e w3 ⟨rfl, hb3⟩))
  go_ret
  exact ⟨rfl, hb2.trans (hb3.mono hb2.size)⟩

set_option maxHeartbeats 4000000 in
set_option maxRecDepth 100000 in
theorem fp_pair (a : Int) (s : ByteArray) (b : Int) (t : ByteArray) (w : World) (hs : s.size ≤ 1000000000) (ht : t.size ≤ 1000000000) :
    Calls Try.prog 30 #[.int .i64 a, .string s, .int .i64 b, .string t] w fun e w' => e = .returned (.int .i64 (pairF a s b t)) ∧ Below w.heap.size w w' := by
  obtain ⟨hr1, hr2⟩ := crcI_range _ (pairB_ok a s b t)
  obtain ⟨r, hr⟩ : ∃ r, crcI (pairB a s b t) = r := ⟨_, rfl⟩
  have HR := Hid.mk' hr
  unfold pairF
  rw [hr] at hr1 hr2 ⊢
  clear hr
  go_enter Try.func30, Try.ntmps30
  go_wp2_with (first
    | ((with_reducible refine gate_dst (N := 12) rfl ?_); refine Kd.R_lit (Kd.int .u8) w.heap.size 5 ?hg (N := 12) ?hd (xs := [a % 256]) (inner := [.int .u8 (a % 256)]) (ok := fun _ => True) (okp := fun _ => True) ?hr ?hp (fun _ hk => hk) trivial (Below.refl _ _) (Nat.le_refl _) (by simp) ?_; (case hd => rfl); (case hg => rfl); (case hr => first | (go_simp; done) | (go_simp; rfl)); (case hp => exact (Reps.one (show Kd.M (Kd.int .u8) _ _ _ (a % 256) [.int .u8 (a % 256)] from rfl) (Reps.none _ _))); intro v1 w1 ho1 hb1 _ _)
    | (at_builtin; refine print_append_str (w0 := w) w.heap.size rfl (.tmp 12) _ 63 9 5 rfl Try.underlying63 Try.underlying9 info_u8 v1 ([a % 256]) s rfl rfl (Kd.own_of_R ho1) hb1 (Nat.le_trans hb1.size (Nat.le_refl _)) (by simp [bytesOf_length]; omega) ?_; intro v2 w2 o2 hb2 _; have ho2 := Kd.R_of_own (h1 := fun _ => rfl) (ok := fun _ => True) o2 (fun _ _ => trivial); clear o2 ho1 hb1)
    | ((with_reducible refine gate_dst (N := 18) rfl ?_); refine Kd.R_lit (Kd.int .u8) w.heap.size 5 ?hg (N := 18) ?hd (xs := [0, b % 256]) (inner := [.int .u8 0, .int .u8 (b % 256)]) (ok := fun _ => True) (okp := fun _ => True) ?hr ?hp (fun _ hk => hk) trivial hb2 hb2.size (by simp) ?_; (case hd => rfl); (case hg => rfl); (case hr => first | (go_simp; done) | (go_simp; rfl)); (case hp => exact (Reps.one (show Kd.M (Kd.int .u8) _ _ _ (0) [.int .u8 (0)] from rfl) (Reps.one (show Kd.M (Kd.int .u8) _ _ _ (b % 256) [.int .u8 (b % 256)] from rfl) (Reps.none _ _)))); intro v3 w3 ho3 hb3 hg3 _; have ho2' := Kd.R_grown ho2 hg3 (fun _ _ => by simp); obtain ⟨A3, c3, rfl⟩ := Kd.R_slice ho3)
    | (at_builtin; refine print_append_row (w0 := w) w.heap.size rfl (.tmp 15) (.tmp 18) 63 5 .u8 1 rfl Try.underlying63 info_u8 (by decide) v2 ([a % 256] ++ bytesOf s) ([0, b % 256]) A3 2 c3 rfl rfl (Kd.own_of_R ho2') (Kd.reads_of_C (d := (0 : Int)) (h1 := fun _ => rfl) (Kd.R_reads' ho3).2.2) hb3 hb3.size (by simp [bytesOf_length]; omega) ?_; intro v4 w4 o4 hb4 _ _; have ho4 := Kd.R_of_own (h1 := fun _ => rfl) (ok := fun _ => True) o4 (fun _ _ => trivial); clear o4 ho2 ho2' ho3 hb2 hb3)
    | (at_builtin; refine print_append_str (w0 := w) w.heap.size rfl (.tmp 20) _ 63 9 5 rfl Try.underlying63 Try.underlying9 info_u8 v4 ([a % 256] ++ bytesOf s ++ [0, b % 256]) t rfl rfl (Kd.own_of_R ho4) hb4 (Nat.le_trans hb4.size (Nat.le_refl _)) (by simp [bytesOf_length]; omega) ?_; intro v5 w5 o5 hb5 _; have ho5 := Kd.R_of_own (h1 := fun _ => rfl) (ok := fun _ => True) o5 (fun _ _ => trivial); change Kd.R (Kd.int .u8) _ w5 w.heap.size (fun _ => True) v5 (pairB a s b t) at ho5; clear o5 ho4 hb4; obtain ⟨A5, c5, rfl⟩ := Kd.R_slice ho5)
    | (go_at_call 53; refine (crc_sumI A5 c5 (pairB a s b t) _ (Kd.R_reads' ho5).2.2 (pairB_ok a s b t)).mono ?_; rw [HR.out]; rintro e w6 ⟨rfl, hb6⟩))
  go_ret
  exact ⟨rfl, hb5.trans (hb6.mono hb5.size)⟩

theorem below_bytes (W : World) (e : TypeId) (s : ByteArray) : Below W.heap.size W (Lib.bytesWorld W e s) := bytes_below (Below.refl _ _) (Nat.le_refl _) e s
set_option maxHeartbeats 2000000 in
set_option maxRecDepth 100000 in
theorem ref_bytesOf (a : Int) (s : ByteArray) (w : World) (hs : s.size ≤ 1000000000) :
    Calls Try.prog 55 #[.int .i64 a, .string s] w fun e w' => ∃ v, e = .returned v ∧ Kd.R (Kd.int .u8) 5 w' w.heap.size (fun _ => True) v (nodeB a s) ∧ Below w.heap.size w w' := by
  have kb := fun W => print_bytes (P := Try.prog) 9 63 5 Try.underlying9 Try.underlying63 Try.underlying5 s W
  go_enter Try.func55, Try.ntmps55
  go_wp2_with (first
    | ((with_reducible refine gate_dst (N := 7) rfl ?_); refine Kd.R_lit (Kd.int .u8) w.heap.size 5 ?hg (N := 7) ?hd (xs := [a % 256]) (inner := [.int .u8 (a % 256)]) (ok := fun _ => True) (okp := fun _ => True) ?hr ?hp (fun _ hk => hk) trivial (Below.refl _ _) (Nat.le_refl _) (by simp) ?_; (case hd => rfl); (case hg => rfl); (case hr => first | (go_simp; done) | (go_simp; rfl)); (case hp => exact (Reps.one (show Kd.M (Kd.int .u8) _ _ _ (a % 256) [.int .u8 (a % 256)] from rfl) (Reps.none _ _))); intro v1 w1 ho1 hb1 _ _)
    | (at_builtin; refine print_append_row (w0 := w) w.heap.size rfl (.tmp 7) (.tmp 9) 63 5 .u8 1 rfl Try.underlying63 info_u8 (by decide) v1 ([a % 256]) (bytesOf s) (some ⟨w1.heap.size, 0, none⟩) s.size (grownCap w1 s.size 0 5) rfl rfl (Kd.own_of_R (Kd.R_below ho1 (below_bytes w1 5 s))) (bytes_reads w1 5 s (by omega)) (hb1.trans ((below_bytes w1 5 s).mono hb1.size)) (hb1.trans ((below_bytes w1 5 s).mono hb1.size)).size (by simp [bytesOf_length]; omega) ?_; intro v4 w4 o4 hb4 _ _; have ho4 := Kd.R_of_own (h1 := fun _ => rfl) (ok := fun _ => True) o4 (fun _ _ => trivial)))
  go_ret
  exact ⟨_, rfl, ho4, hb4⟩
set_option maxHeartbeats 2000000 in
set_option maxRecDepth 100000 in
theorem rf_node (a : Int) (s : ByteArray) (w : World) (hs : s.size ≤ 1000000000) :
    Calls Try.prog 29 #[.int .i64 a, .string s] w fun e w' => e = .returned (.int .i64 (nodeF a s)) ∧ Below w.heap.size w w' := by
  obtain ⟨hr1, hr2⟩ := crcI_range _ (nodeB_ok a s)
  obtain ⟨r, hr⟩ : ∃ r, crcI (nodeB a s) = r := ⟨_, rfl⟩
  have HR := Hid.mk' hr
  unfold nodeF
  rw [hr] at hr1 hr2 ⊢
  clear hr
  go_enter Try.func29, Try.ntmps29
  go_wp2_with (first
    | (go_at_call 55; refine (ref_bytesOf a s _ hs).mono ?_; rintro e w2 ⟨v2, rfl, ho2, hb2⟩; obtain ⟨A2, c2, rfl⟩ := Kd.R_slice ho2)
    | (go_at_call 54; refine (ref_sumI A2 c2 (nodeB a s) _ (Kd.R_reads' ho2).2.2 (nodeB_ok a s)).mono ?_; rw [HR.out]; rintro e w3 ⟨rfl, rfl⟩))
  go_ret
  exact ⟨rfl, hb2⟩
set_option maxHeartbeats 4000000 in
set_option maxRecDepth 100000 in
theorem rf_pair (a : Int) (s : ByteArray) (b : Int) (t : ByteArray) (w : World) (hs : s.size ≤ 1000000000) (ht : t.size ≤ 1000000000) :
    Calls Try.prog 31 #[.int .i64 a, .string s, .int .i64 b, .string t] w fun e w' => e = .returned (.int .i64 (pairF a s b t)) ∧ Below w.heap.size w w' := by
  obtain ⟨hr1, hr2⟩ := crcI_range _ (pairB_ok a s b t)
  obtain ⟨r, hr⟩ : ∃ r, crcI (pairB a s b t) = r := ⟨_, rfl⟩
  have HR := Hid.mk' hr
  unfold pairF
  rw [hr] at hr1 hr2 ⊢
  clear hr
  have hpb : pairB a s b t = (nodeB a s ++ [0]) ++ nodeB b t := by unfold pairB nodeB; simp
  have HP := Hid.mk' hpb
  clear hpb
  have hl1 : (nodeB a s).length ≤ 1000000001 := by unfold nodeB; simp [bytesOf_length]; omega
  have hl2 : (nodeB b t).length ≤ 1000000001 := by unfold nodeB; simp [bytesOf_length]; omega
  go_enter Try.func31, Try.ntmps31
  go_wp2_with (first
    | (go_at_call 55; ((with_reducible refine (ref_bytesOf a s _ hs).mono ?_); rintro e w2 ⟨v2, rfl, ho2, hb2⟩))
    | ((with_reducible refine gate_dst (N := 13) rfl ?_); refine Kd.R_lit (Kd.int .u8) w.heap.size 5 ?hg (N := 13) ?hd (xs := [0]) (inner := [.int .u8 0]) (ok := fun _ => True) (okp := fun _ => True) ?hr ?hp (fun _ hk => hk) trivial hb2 hb2.size (by simp) ?_; (case hd => rfl); (case hg => rfl); (case hr => first | (go_simp; done) | (go_simp; rfl)); (case hp => exact (Reps.one (show Kd.M (Kd.int .u8) _ _ _ (0) [.int .u8 (0)] from rfl) (Reps.none _ _))); intro v3 w3 ho3 hb3 hg3 _; have ho2' := Kd.R_grown ho2 hg3 (fun _ _ => by simp); obtain ⟨A3, c3, rfl⟩ := Kd.R_slice ho3)
    | (at_builtin; refine print_append_row (w0 := w) w.heap.size rfl (.tmp 12) (.tmp 13) 63 5 .u8 1 rfl Try.underlying63 info_u8 (by decide) v2 (nodeB a s) ([0]) A3 1 c3 rfl rfl (Kd.own_of_R ho2') (Kd.reads_of_C (d := (0 : Int)) (h1 := fun _ => rfl) (Kd.R_reads' ho3).2.2) hb3 hb3.size (by omega) ?_; intro v4 w4 o4 hb4 _ _; have ho4 := Kd.R_of_own (h1 := fun _ => rfl) (ok := fun _ => True) o4 (fun _ _ => trivial); clear o4 ho2 ho2' ho3 hb2 hb3))
  refine (ref_bytesOf b t _ ht).mono ?_
  rintro e w5 ⟨v5, rfl, ho5, hb5⟩
  have hb45 : Below w.heap.size w w5 := hb4.trans (hb5.mono hb4.size)
  have ho45 := Kd.R_below ho4 hb5
  obtain ⟨A5, c5, rfl⟩ := Kd.R_slice ho5
  go_wp2_with (first
    | (at_builtin; refine print_append_row (w0 := w) w.heap.size rfl (.tmp 15) (.tmp 18) 63 5 .u8 1 rfl Try.underlying63 info_u8 (by decide) v4 (nodeB a s ++ [0]) (nodeB b t) A5 (nodeB b t).length c5 rfl rfl (Kd.own_of_R ho45) (Kd.reads_of_C (d := (0 : Int)) (h1 := fun _ => rfl) (Kd.R_reads' ho5).2.2) hb45 hb45.size (by rw [List.length_append]; simp only [List.length_singleton]; omega) ?_; intro v6 w6 o6 hb6 _ _; have ho6 := Kd.R_of_own (h1 := fun _ => rfl) (ok := fun _ => True) o6 (fun _ _ => trivial); change Kd.R (Kd.int .u8) _ w6 w.heap.size (fun _ => True) v6 _ at ho6; rw [← HP.out] at ho6; clear o6 ho4 ho45 ho5 hb4 hb5 hb45; obtain ⟨A6, c6, rfl⟩ := Kd.R_slice ho6)
    | (go_at_call 54; refine (ref_sumI A6 c6 (pairB a s b t) _ (Kd.R_reads' ho6).2.2 (pairB_ok a s b t)).mono ?_; rw [HR.out]; rintro e w7 ⟨rfl, rfl⟩))
  go_ret
  exact ⟨rfl, hb6⟩
end Go.Proofs.Ytlnoadnejefmoaa
