/- What the printed texts of chapter 20 take from the walks by hand: the functions of the features as plain functions, with their contracts. Strings of at most 1000000000 bytes, trees of at most 40 levels. -/
import Derived.Test.YtlnoadnejefmoaaFpSet
import Derived.Test.YtlnoadnejefmoaaFpRef
set_option linter.unusedVariables false
set_option linter.unusedSimpArgs false
namespace Go.Proofs.Ytlnoadnejefmoaa.L20
open Go.RowKit Go.Maps Go.Proofs.YtlnoadnejefmoaaW.PrintWords
def featD (a0 : Int) (a1 : ByteArray) (a2 a3 : Int) (l : List S42) (skip : Bool) : Option (List Int) := (featL 40 skip ⟨a0, a1, a2, a3, l⟩).bind fun r => if r.length ≤ 1000000000 then some (insAll r) else none
theorem featD_some {a0 : Int} {a1 : ByteArray} {a2 a3 : Int} {l : List S42} {skip : Bool} {r : List Int} (h : featD a0 a1 a2 a3 l skip = some r) : ∃ q, featL 40 skip ⟨a0, a1, a2, a3, l⟩ = some q ∧ q.length ≤ 1000000000 ∧ insAll q = r := by
  obtain ⟨q, h1, h2⟩ := Option.bind_eq_some_iff.1 h
  split at h2
  · exact ⟨q, h1, by assumption, Option.some.inj h2⟩
  · cases h2
def fingerprint_features.f (a0 : Int) (a1 : ByteArray) (a2 a3 : Int) (l : List S42) (skip : Bool) : Option (List Int) := featD a0 a1 a2 a3 l skip
theorem fingerprint_features.calls (a0 : Int) (a1 : ByteArray) (a2 a3 : Int) (A : Option Addr) (c : Nat) (l : List S42) (skip : Bool) (r : List Int) (w : World) (hC : Kd.C k42 w A l.length l) (hc : l.length ≤ c) (h : fingerprint_features.f a0 a1 a2 a3 l skip = some r) :
    Calls Try.prog 57 #[.agg #[.int .i64 a0, .string a1, .int .i64 a2, .int .i64 a3, .slice A l.length c], .bool skip] w fun e w' => ∃ v0_ : Value, e = .returned (v0_) ∧ Kd.R (Kd.int .i64) 3 w' w.heap.size (fun _ => True) v0_ r ∧ Below w.heap.size w w' := by
  obtain ⟨q, h1, h2, rfl⟩ := featD_some h
  exact fp_features ⟨a0, a1, a2, a3, l⟩ A c 40 skip q w h1 hC h2
def codesearchref20_Of.f (a0 : Int) (a1 : ByteArray) (a2 a3 : Int) (l : List S42) : Option (List Int) := featD a0 a1 a2 a3 l false
set_option maxHeartbeats 2000000 in
set_option maxRecDepth 100000 in
theorem codesearchref20_Of.calls (a0 : Int) (a1 : ByteArray) (a2 a3 : Int) (A : Option Addr) (c : Nat) (l : List S42) (r : List Int) (w : World) (hC : Kd.C k42 w A l.length l) (hc : l.length ≤ c) (h : codesearchref20_Of.f a0 a1 a2 a3 l = some r) :
    Calls Try.prog 35 #[.agg #[.int .i64 a0, .string a1, .int .i64 a2, .int .i64 a3, .slice A l.length c]] w fun e w' => ∃ v0_ : Value, e = .returned (v0_) ∧ Kd.R (Kd.int .i64) 3 w' w.heap.size (fun _ => True) v0_ r ∧ Below w.heap.size w w' := by
  obtain ⟨q, h1, h2, h3⟩ := featD_some h
  have H1 := Hid.mk' h1
  clear h h1
  obtain ⟨W1, hW1⟩ : ∃ W, w.alloc (.cells #[.int .i64 a0, .string a1, .int .i64 a2, .int .i64 a3, .slice A l.length c] 42) = W := ⟨_, rfl⟩
  have hB1 : Below w.heap.size w W1 := by rw [← hW1]; exact below_alloc (Below.refl _ _) _
  have b4 : W1.heap[w.heap.size]? = some (.cells #[.int .i64 a0, .string a1, .int .i64 a2, .int .i64 a3, .slice A l.length c] 42 (0, 0)) := by rw [← hW1]; exact Go.heap_alloc_new _ _
  have r0 := blk_cell b4 0
  have r1 := blk_cell b4 1
  have r2 := blk_cell b4 2
  have r3 := blk_cell b4 3
  have r4 := blk_cell b4 4
  have hCall := rf_visit w.heap.size false 40 ⟨a0, a1, a2, a3, l⟩ A c [] q (.slice none 0 0) W1 H1.out (Kd.C_below hC hB1) (Kd.R_nil _ _ _ _ _) hB1.size (by simpa using h2)
  have HCALL := Hid.mk' hCall
  clear hCall
  go_enter Try.func35, Try.ntmps35
  go_wp2_with (go_at_call 58; refine HCALL.out.mono ?_; rintro e w2 ⟨v, rfl, hR, hb⟩)
  go_ret
  exact ⟨_, rfl, by rw [← h3]; exact hR, below_step hB1 hb⟩
def codesearchref20_Need.f (a0 : Int) (a1 : ByteArray) (a2 a3 : Int) (l : List S42) : Option (List Int) := featD a0 a1 a2 a3 l true
set_option maxHeartbeats 2000000 in
set_option maxRecDepth 100000 in
theorem codesearchref20_Need.calls (a0 : Int) (a1 : ByteArray) (a2 a3 : Int) (A : Option Addr) (c : Nat) (l : List S42) (r : List Int) (w : World) (hC : Kd.C k42 w A l.length l) (hc : l.length ≤ c) (h : codesearchref20_Need.f a0 a1 a2 a3 l = some r) :
    Calls Try.prog 37 #[.agg #[.int .i64 a0, .string a1, .int .i64 a2, .int .i64 a3, .slice A l.length c]] w fun e w' => ∃ v0_ : Value, e = .returned (v0_) ∧ Kd.R (Kd.int .i64) 3 w' w.heap.size (fun _ => True) v0_ r ∧ Below w.heap.size w w' := by
  obtain ⟨q, h1, h2, h3⟩ := featD_some h
  have H1 := Hid.mk' h1
  clear h h1
  obtain ⟨W1, hW1⟩ : ∃ W, w.alloc (.cells #[.int .i64 a0, .string a1, .int .i64 a2, .int .i64 a3, .slice A l.length c] 42) = W := ⟨_, rfl⟩
  have hB1 : Below w.heap.size w W1 := by rw [← hW1]; exact below_alloc (Below.refl _ _) _
  have b4 : W1.heap[w.heap.size]? = some (.cells #[.int .i64 a0, .string a1, .int .i64 a2, .int .i64 a3, .slice A l.length c] 42 (0, 0)) := by rw [← hW1]; exact Go.heap_alloc_new _ _
  have r0 := blk_cell b4 0
  have r1 := blk_cell b4 1
  have r2 := blk_cell b4 2
  have r3 := blk_cell b4 3
  have r4 := blk_cell b4 4
  have hCall := rf_visit w.heap.size true 40 ⟨a0, a1, a2, a3, l⟩ A c [] q (.slice none 0 0) W1 H1.out (Kd.C_below hC hB1) (Kd.R_nil _ _ _ _ _) hB1.size (by simpa using h2)
  have HCALL := Hid.mk' hCall
  clear hCall
  go_enter Try.func37, Try.ntmps37
  go_wp2_with (go_at_call 58; refine HCALL.out.mono ?_; rintro e w2 ⟨v, rfl, hR, hb⟩)
  go_ret
  exact ⟨_, rfl, by rw [← h3]; exact hR, below_step hB1 hb⟩
def fingerprint_Possible.f (l0 l1 : List Int) : Option Bool := if (l0.all (fun x => (Lit.int .i64 x).wf) && l1.all (fun x => (Lit.int .i64 x).wf) && decide (l1.length ≤ 1000000000)) = true then some (subB l0 l1) else none
theorem fingerprint_Possible.calls (A0 : Option Addr) (c0 : Nat) (l0 : List Int) (A1 : Option Addr) (c1 : Nat) (l1 : List Int) (r : Bool) (w : World) (hC0 : Kd.C (Kd.int .i64) w A0 l0.length l0) (hc0 : l0.length ≤ c0) (hC1 : Kd.C (Kd.int .i64) w A1 l1.length l1) (hc1 : l1.length ≤ c1) (h : fingerprint_Possible.f l0 l1 = some r) :
    Calls Try.prog 38 #[.slice A0 l0.length c0, .slice A1 l1.length c1] w fun e w' => e = .returned (.bool r) ∧ Below w.heap.size w w' := by
  unfold fingerprint_Possible.f at h
  split at h
  · rename_i hg
    rw [Bool.and_eq_true, Bool.and_eq_true, decide_eq_true_eq, List.all_eq_true, List.all_eq_true] at hg
    obtain rfl := Option.some.inj h
    exact fp_possible A0 A1 c0 c1 l0 l1 w hC0 hC1 hg.1.1 hg.1.2 hg.2
  · cases h
def nodeD (a : Int) (s : ByteArray) : Option Int := if s.size ≤ 1000000000 then some (nodeF a s) else none
def pairD (a : Int) (s : ByteArray) (b : Int) (t : ByteArray) : Option Int := if s.size ≤ 1000000000 ∧ t.size ≤ 1000000000 then some (pairF a s b t) else none
def fingerprint_Node.f (a : Int) (s : ByteArray) : Option Int := nodeD a s
def codesearchref20_Node.f (a : Int) (s : ByteArray) : Option Int := nodeD a s
def fingerprint_Pair.f (a : Int) (s : ByteArray) (b : Int) (t : ByteArray) : Option Int := pairD a s b t
def codesearchref20_Pair.f (a : Int) (s : ByteArray) (b : Int) (t : ByteArray) : Option Int := pairD a s b t
theorem fingerprint_Node.calls (a : Int) (s : ByteArray) (r : Int) (w : World) (h : fingerprint_Node.f a s = some r) : Calls Try.prog 28 #[.int .i64 a, .string s] w fun e w' => e = .returned (.int .i64 r) ∧ Below w.heap.size w w' := by
  unfold fingerprint_Node.f nodeD at h
  split at h
  · obtain rfl := Option.some.inj h
    exact fp_node a s w (by assumption)
  · cases h
theorem codesearchref20_Node.calls (a : Int) (s : ByteArray) (r : Int) (w : World) (h : codesearchref20_Node.f a s = some r) : Calls Try.prog 29 #[.int .i64 a, .string s] w fun e w' => e = .returned (.int .i64 r) ∧ Below w.heap.size w w' := by
  unfold codesearchref20_Node.f nodeD at h
  split at h
  · obtain rfl := Option.some.inj h
    exact rf_node a s w (by assumption)
  · cases h
theorem fingerprint_Pair.calls (a : Int) (s : ByteArray) (b : Int) (t : ByteArray) (r : Int) (w : World) (h : fingerprint_Pair.f a s b t = some r) : Calls Try.prog 30 #[.int .i64 a, .string s, .int .i64 b, .string t] w fun e w' => e = .returned (.int .i64 r) ∧ Below w.heap.size w w' := by
  unfold fingerprint_Pair.f pairD at h
  split at h
  · rename_i hg
    obtain rfl := Option.some.inj h
    exact fp_pair a s b t w hg.1 hg.2
  · cases h
theorem codesearchref20_Pair.calls (a : Int) (s : ByteArray) (b : Int) (t : ByteArray) (r : Int) (w : World) (h : codesearchref20_Pair.f a s b t = some r) : Calls Try.prog 31 #[.int .i64 a, .string s, .int .i64 b, .string t] w fun e w' => e = .returned (.int .i64 r) ∧ Below w.heap.size w w' := by
  unfold codesearchref20_Pair.f pairD at h
  split at h
  · rename_i hg
    obtain rfl := Option.some.inj h
    exact rf_pair a s b t w hg.1 hg.2
  · cases h
end Go.Proofs.Ytlnoadnejefmoaa.L20
