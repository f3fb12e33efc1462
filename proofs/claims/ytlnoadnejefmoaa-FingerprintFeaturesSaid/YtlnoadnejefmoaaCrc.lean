/- The checksum: eight steps of the register are two steps by four bits with the table. No condition. -/
import Derived.Test.YtlnoadnejefmoaaTkPlain
import Derived.Laws.BitsLemmas
set_option linter.unusedVariables false
set_option linter.unusedSimpArgs false
namespace Go.Proofs.Ytlnoadnejefmoaa

/-- A step of the register. -/
def bstep (x : Nat) : Nat := if x % 2 = 1 then (x / 2) ^^^ 2197175160 else x / 2
def bsteps : Nat → Nat → Nat
  | 0, x => x
  | n + 1, x => bsteps n (bstep x)
theorem bsteps_add (a b x : Nat) : bsteps (a + b) x = bsteps b (bsteps a x) := by
  induction a generalizing x with
  | zero => rw [Nat.zero_add]; rfl
  | succ a ih => rw [Nat.succ_add]; exact ih _
theorem bsteps_snoc (n x : Nat) : bsteps (n + 1) x = bstep (bsteps n x) := bsteps_add n 1 x
theorem xor_half (a b : Nat) : (a ^^^ b) / 2 = (a / 2) ^^^ (b / 2) := by
  have := Nat.shiftRight_xor_distrib (a := a) (b := b) (i := 1)
  simpa [Nat.shiftRight_eq_div_pow] using this
theorem xor_odd (a b : Nat) : (a ^^^ b) % 2 = (a % 2 + b % 2) % 2 := by
  have h := Nat.xor_mod_two_pow (a := a) (b := b) (n := 1)
  rw [Nat.pow_one] at h
  rw [h]
  rcases Nat.mod_two_eq_zero_or_one a with ha | ha <;> rcases Nat.mod_two_eq_zero_or_one b with hb | hb <;> rw [ha, hb] <;> rfl
theorem bstep_xor (a b : Nat) : bstep (a ^^^ b) = bstep a ^^^ bstep b := by
  unfold bstep
  rw [xor_half]
  have h := xor_odd a b
  rcases Nat.mod_two_eq_zero_or_one a with ha | ha <;> rcases Nat.mod_two_eq_zero_or_one b with hb | hb
  · rw [if_neg (by omega), if_neg (by omega), if_neg (by omega)]
  · rw [if_pos (by omega), if_neg (by omega), if_pos (by omega), Nat.xor_assoc]
  · rw [if_pos (by omega), if_pos (by omega), if_neg (by omega), Nat.xor_assoc, Nat.xor_comm (b / 2), ← Nat.xor_assoc]
  · rw [if_neg (by omega), if_pos (by omega), if_pos (by omega), Nat.xor_assoc, ← Nat.xor_assoc 2197175160, Nat.xor_comm 2197175160, Nat.xor_assoc (b / 2), Nat.xor_self, Nat.xor_zero]
theorem bsteps_xor (n a b : Nat) : bsteps n (a ^^^ b) = bsteps n a ^^^ bsteps n b := by
  induction n generalizing a b with
  | zero => rfl
  | succ n ih => show bsteps n (bstep _) = _; rw [bstep_xor]; exact ih _ _
theorem bstep_even (y : Nat) : bstep (2 * y) = y := by unfold bstep; rw [if_neg (by omega)]; omega
theorem split16 (x : Nat) : x = (16 * (x / 16)) ^^^ (x % 16) := by
  apply Nat.eq_of_testBit_eq
  intro i
  rw [Nat.testBit_xor, show (16 : Nat) = 2 ^ 4 from rfl, Nat.testBit_two_pow_mul, Nat.testBit_mod_two_pow, Nat.testBit_div_two_pow]
  by_cases h : 4 ≤ i
  · rw [show i - 4 + 4 = i from by omega]
    simp [h, show ¬ i < 4 by omega]
  · simp [h, show i < 4 by omega]
/-- Four steps, by the table. -/
theorem bsteps4 (x : Nat) : bsteps 4 x = (x / 16) ^^^ bsteps 4 (x % 16) := by
  conv => lhs; rw [split16 x]
  rw [bsteps_xor]
  congr 1
  show bstep (bstep (bstep (bstep _))) = _
  rw [show 16 * (x / 16) = 2 * (2 * (2 * (2 * (x / 16)))) from by omega, bstep_even, bstep_even, bstep_even, bstep_even]
def crcTake (x c : Nat) : Nat := bsteps 8 (x ^^^ c)
theorem crcTake_two (x c : Nat) : crcTake x c = bsteps 4 (bsteps 4 (x ^^^ c)) := bsteps_add 4 4 _
theorem bstep_lt (x : Nat) (h : x < 4294967296) : bstep x < 4294967296 := by
  unfold bstep
  split
  · exact Nat.xor_lt_two_pow (n := 32) (by omega) (by omega)
  · omega
theorem bsteps_lt (n x : Nat) (h : x < 4294967296) : bsteps n x < 4294967296 := by
  induction n generalizing x with
  | zero => exact h
  | succ n ih => exact ih _ (bstep_lt x h)
theorem crcTake_lt (x c : Nat) (h : x < 4294967296) (hc : c < 256) : crcTake x c < 4294967296 := bsteps_lt 8 _ (Nat.xor_lt_two_pow (n := 32) h (by omega))
def crcGo (x : Nat) (l : List Nat) : Nat := l.foldl crcTake x
def crcOf (l : List Nat) : Nat := 4294967295 ^^^ crcGo 4294967295 l
theorem crcGo_lt : ∀ (l : List Nat) (x : Nat), x < 4294967296 → (∀ c ∈ l, c < 256) → crcGo x l < 4294967296
  | [], x, h, _ => h
  | c :: t, x, h, hc => crcGo_lt t _ (crcTake_lt x c h (hc c (by simp))) (fun d hd => hc d (by simp [hd]))
theorem bits_xor32 (a b : Nat) (ha : a < 4294967296) (hb : b < 4294967296) : bits .xor .u32 (a : Int) (b : Int) = ((a ^^^ b : Nat) : Int) := by
  have hx : a ^^^ b < 4294967296 := Nat.xor_lt_two_pow (n := 32) ha hb
  have ha' : a % 2 ^ IntKind.u32.bits = a := Nat.mod_eq_of_lt ha
  have hb' : b % 2 ^ IntKind.u32.bits = b := Nat.mod_eq_of_lt hb
  simp only [bits, BitVec.ofInt_natCast, BitVec.toNat_xor, BitVec.toNat_ofNat, ha', hb']
  rw [IntKind.wrap_u32]
  omega
theorem bits_max32 (a : Nat) (ha : a < 4294967296) : bits .xor .u32 IntKind.u32.max (a : Int) = ((4294967295 ^^^ a : Nat) : Int) := bits_xor32 4294967295 a (by decide) ha
theorem crcOf_lt (l : List Nat) (h : ∀ c ∈ l, c < 256) : crcOf l < 4294967296 := Nat.xor_lt_two_pow (n := 32) (by decide) (crcGo_lt l _ (by decide) h)
theorem crcGo_snoc (x : Nat) (l : List Nat) (c : Nat) : crcGo x (l ++ [c]) = crcTake (crcGo x l) c := by unfold crcGo; rw [List.foldl_append]; rfl
theorem bits_and15 (a : Nat) (ha : a < 4294967296) : bits .and .u32 (a : Int) 15 = ((a % 16 : Nat) : Int) := by
  have h := (bits_nat .u32 32 (by decide) (fun n h0 h1 => by rw [IntKind.wrap_u32]; omega) a 15 ha (by decide)).1
  refine h.trans ?_
  rw [show (15 : Nat) = 2 ^ 4 - 1 from rfl, Nat.and_two_pow_sub_one_eq_mod]
theorem bits_and1 (a : Nat) (ha : a < 4294967296) : bits .and .u32 (a : Int) 1 = ((a % 2 : Nat) : Int) := by
  have h := (bits_nat .u32 32 (by decide) (fun n h0 h1 => by rw [IntKind.wrap_u32]; omega) a 1 ha (by decide)).1
  refine h.trans ?_
  rw [show (1 : Nat) = 2 ^ 1 - 1 from rfl, Nat.and_two_pow_sub_one_eq_mod]
end Go.Proofs.Ytlnoadnejefmoaa
