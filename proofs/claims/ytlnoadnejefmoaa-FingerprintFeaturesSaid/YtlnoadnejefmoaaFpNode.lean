/- fingerprint.Node and Pair, and the reference's, return the plain numbers. Strings of at most 1000000000 bytes. -/
import Derived.Test.YtlnoadnejefmoaaCrcTab
import Derived.Lib.ConvBytes
import Derived.Test.YtlnoadnejefmoaaWRepsOne
set_option linter.unusedVariables false
set_option linter.unusedSimpArgs false
namespace Go.Proofs.Ytlnoadnejefmoaa
open Go.RowKit Go.Proofs.YtlnoadnejefmoaaW.PrintWords
def crcI (xs : List Int) : Int := ((crcOf (xs.map Int.toNat) : Nat) : Int)
def bytesL (xs : List Int) : Prop := ∀ x ∈ xs, 0 ≤ x ∧ x < 256
theorem nats_toNat (xs : List Int) (h : bytesL xs) : nats (xs.map Int.toNat) = xs := by
  unfold nats
  rw [List.map_map]
  conv => rhs; rw [← List.map_id xs]
  apply List.map_congr_left
  intro x hx
  have := h x hx
  simp
  omega
theorem crcI_range (xs : List Int) (h : bytesL xs) : 0 ≤ crcI xs ∧ crcI xs < 4294967296 := by
  have := crcOf_lt (xs.map Int.toNat) (fun c hc => by
    obtain ⟨x, hx, rfl⟩ := List.mem_map.1 hc
    have := h x hx
    omega)
  unfold crcI
  omega
theorem crc_sumI (A : Option Addr) (c : Nat) (xs : List Int) (w : World) (h : (Kd.int .u8).C w A xs.length xs) (hb : bytesL xs) :
    Calls Try.prog 53 #[.slice A xs.length c] w fun e w' => e = .returned (.int .u32 (crcI xs)) ∧ Below w.heap.size w w' := by
  have := crc_sum A c (xs.map Int.toNat) w (by rw [nats_toNat xs hb, List.length_map]; exact h) (fun d hd => by
    obtain ⟨x, hx, rfl⟩ := List.mem_map.1 hd
    have := hb x hx
    omega)
  rw [List.length_map] at this
  exact this
theorem ref_sumI (A : Option Addr) (c : Nat) (xs : List Int) (w : World) (h : (Kd.int .u8).C w A xs.length xs) (hb : bytesL xs) :
    Calls Try.prog 54 #[.slice A xs.length c] w fun e w' => e = .returned (.int .u32 (crcI xs)) ∧ w = w' := by
  have := ref_sum A c (xs.map Int.toNat) w (by rw [nats_toNat xs hb, List.length_map]; exact h) (fun d hd => by
    obtain ⟨x, hx, rfl⟩ := List.mem_map.1 hd
    have := hb x hx
    omega)
  rw [List.length_map] at this
  exact this
theorem info_u8 : (Try.prog.info? 5).map (fun i => (i.zero, i.size, i.bytes)) = some (some (.int .u8 0), 1, 1) := by kernel_rfl
theorem bytesL_bytes (s : ByteArray) : bytesL (bytesOf s) := fun x hx => by
  unfold bytesOf at hx
  obtain ⟨c, _, rfl⟩ := List.mem_map.1 hx
  have := c.toNat_lt
  omega
theorem bytesL_app {a b : List Int} (ha : bytesL a) (hb : bytesL b) : bytesL (a ++ b) := fun x hx => (List.mem_append.1 hx).elim (ha x) (hb x)
theorem bytesL_one (a : Int) : bytesL [a % 256] := fun x hx => by rw [List.mem_singleton.1 hx]; omega
/-- The feature of a node; of a pair. -/
def nodeB (a : Int) (s : ByteArray) : List Int := [a % 256] ++ bytesOf s
def pairB (a : Int) (s : ByteArray) (b : Int) (t : ByteArray) : List Int := [a % 256] ++ bytesOf s ++ [0, b % 256] ++ bytesOf t
theorem nodeB_ok (a : Int) (s : ByteArray) : bytesL (nodeB a s) := bytesL_app (bytesL_one a) (bytesL_bytes s)
theorem pairB_ok (a : Int) (s : ByteArray) (b : Int) (t : ByteArray) : bytesL (pairB a s b t) := bytesL_app (bytesL_app (nodeB_ok a s) (fun x hx => by
  rcases List.mem_cons.1 hx with rfl | hx
  · omega
  · rw [List.mem_singleton.1 hx]; omega)) (bytesL_bytes t)
def nodeF (a : Int) (s : ByteArray) : Int := crcI (nodeB a s)
def pairF (a : Int) (s : ByteArray) (b : Int) (t : ByteArray) : Int := 4294967296 + crcI (pairB a s b t)
set_option maxHeartbeats 2000000 in
set_option maxRecDepth 100000 in
theorem fp_node (a : Int) (s : ByteArray) (w : World) (hs : s.size ≤ 1000000000) :
    Calls Try.prog 28 #[.int .i64 a, .string s] w fun e w' => e = .returned (.int .i64 (nodeF a s)) ∧ Below w.heap.size w w' := by
  obtain ⟨hr1, hr2⟩ := crcI_range _ (nodeB_ok a s)
  obtain ⟨r, hr⟩ : ∃ r, crcI (nodeB a s) = r := ⟨_, rfl⟩
  have HR := Hid.mk' hr
  unfold nodeF
  rw [hr] at hr1 hr2 ⊢
  clear hr
  go_enter Try.func28, Try.ntmps28
  go_wp2_with (first
    | ((with_reducible refine gate_dst (N := 7) rfl ?_); refine Kd.R_lit (Kd.int .u8) w.heap.size 5 ?hg (N := 7) ?hd (xs := [a % 256]) (inner := [.int .u8 (a % 256)]) (ok := fun _ => True) (okp := fun _ => True) ?hr ?hp (fun _ hk => hk) trivial (Below.refl _ _) (Nat.le_refl _) (by simp) ?_; (case hd => rfl); (case hg => rfl); (case hr => first | (go_simp; done) | (go_simp; rfl)); (case hp => exact (Reps.one (show Kd.M (Kd.int .u8) _ _ _ (a % 256) [.int .u8 (a % 256)] from rfl) (Reps.none _ _))); intro v1 w1 ho1 hb1 _ _)
    | (at_builtin; refine print_append_str (w0 := w) w.heap.size rfl (.tmp 7) _ 63 9 5 rfl Try.underlying63 Try.underlying9 info_u8 v1 [a % 256] s rfl rfl (Kd.own_of_R ho1) hb1 hb1.size (by simp; omega) ?_; intro v2 w2 o2 hb2 _; have ho2 := Kd.R_of_own (h1 := fun _ => rfl) (ok := fun _ => True) o2 (fun _ _ => trivial); change Kd.R (Kd.int .u8) _ w2 w.heap.size (fun _ => True) v2 (nodeB a s) at ho2; clear o2; obtain ⟨A2, c2, rfl⟩ := Kd.R_slice ho2)
    | (go_at_call 53; refine (crc_sumI A2 c2 (nodeB a s) _ (Kd.R_reads' ho2).2.2 (nodeB_ok a s)).mono ?_; rw [HR.out]; rintro e w3 ⟨rfl, hb3⟩))
  go_ret
  exact ⟨rfl, hb2.trans (hb3.mono hb2.size)⟩

set_option maxHeartbeats 4000000 in
set_option maxRecDepth 100000 in
theorem fp_pair (a : Int) (s : ByteArray) (b : Int) (t : ByteArray) (w : World) (hs : s.size ≤ 1000000000) (ht : t.size ≤ 1000000000) :
    Calls Try.prog 30 #[.int .i64 a, .string s, .int .i64 b, .string t] w fun e w' => e = .returned (.int .i64 (pairF a s b t)) ∧ Below w.heap.size w w' := by
  obtain ⟨hr1, hr2⟩ := crcI_range _ (pairB_ok a s b t)
  obtain ⟨r, hr⟩ : ∃ r, crcI (pairB a s b t) = r := ⟨_, rfl⟩
  have HR := Hid.mk' hr
  unfold pairF
  rw [hr] at hr1 hr2 ⊢
  clear hr
  go_enter Try.func30, Try.ntmps30
  go_wp2_with (first
    | ((with_reducible refine gate_dst (N := 12) rfl ?_); refine Kd.R_lit (Kd.int .u8) w.heap.size 5 ?hg (N := 12) ?hd (xs := [a % 256]) (inner := [.int .u8 (a % 256)]) (ok := fun _ => True) (okp := fun _ => True) ?hr ?hp (fun _ hk => hk) trivial (Below.refl _ _) (Nat.le_refl _) (by simp) ?_; (case hd => rfl); (case hg => rfl); (case hr => first | (go_simp; done) | (go_simp; rfl)); (case hp => exact (Reps.one (show Kd.M (Kd.int .u8) _ _ _ (a % 256) [.int .u8 (a % 256)] from rfl) (Reps.none _ _))); intro v1 w1 ho1 hb1 _ _)
    | (at_builtin; refine print_append_str (w0 := w) w.heap.size rfl (.tmp 12) _ 63 9 5 rfl Try.underlying63 Try.underlying9 info_u8 v1 ([a % 256]) s rfl rfl (Kd.own_of_R ho1) hb1 (Nat.le_trans hb1.size (Nat.le_refl _)) (by simp [bytesOf_length]; omega) ?_; intro v2 w2 o2 hb2 _; have ho2 := Kd.R_of_own (h1 := fun _ => rfl) (ok := fun _ => True) o2 (fun _ _ => trivial); clear o2 ho1 hb1)
    | ((with_reducible refine gate_dst (N := 18) rfl ?_); refine Kd.R_lit (Kd.int .u8) w.heap.size 5 ?hg (N := 18) ?hd (xs := [0, b % 256]) (inner := [.int .u8 0, .int .u8 (b % 256)]) (ok := fun _ => True) (okp := fun _ => True) ?hr ?hp (fun _ hk => hk) trivial hb2 hb2.size (by simp) ?_; (case hd => rfl); (case hg => rfl); (case hr => first | (go_simp; done) | (go_simp; rfl)); (case hp => exact (Reps.one (show Kd.M (Kd.int .u8) _ _ _ (0) [.int .u8 (0)] from rfl) (Reps.one (show Kd.M (Kd.int .u8) _ _ _ (b % 256) [.int .u8 (b % 256)] from rfl) (Reps.none _ _)))); intro v3 w3 ho3 hb3 hg3 _; have ho2' := Kd.R_grown ho2 hg3 (fun _ _ => by simp); obtain ⟨A3, c3, rfl⟩ := Kd.R_slice ho3)
    | (at_builtin; refine print_append_row (w0 := w) w.heap.size rfl (.tmp 15) (.tmp 18) 63 5 .u8 1 rfl Try.underlying63 info_u8 (by decide) v2 ([a % 256] ++ bytesOf s) ([0, b % 256]) A3 2 c3 rfl rfl (Kd.own_of_R ho2') (Kd.reads_of_C (d := (0 : Int)) (h1 := fun _ => rfl) (Kd.R_reads' ho3).2.2) hb3 hb3.size (by simp [bytesOf_length]; omega) ?_; intro v4 w4 o4 hb4 _ _; have ho4 := Kd.R_of_own (h1 := fun _ => rfl) (ok := fun _ => True) o4 (fun _ _ => trivial); clear o4 ho2 ho2' ho3 hb2 hb3)
    | (at_builtin; refine print_append_str (w0 := w) w.heap.size rfl (.tmp 20) _ 63 9 5 rfl Try.underlying63 Try.underlying9 info_u8 v4 ([a % 256] ++ bytesOf s ++ [0, b % 256]) t rfl rfl (Kd.own_of_R ho4) hb4 (Nat.le_trans hb4.size (Nat.le_refl _)) (by simp [bytesOf_length]; omega) ?_; intro v5 w5 o5 hb5 _; have ho5 := Kd.R_of_own (h1 := fun _ => rfl) (ok := fun _ => True) o5 (fun _ _ => trivial); change Kd.R (Kd.int .u8) _ w5 w.heap.size (fun _ => True) v5 (pairB a s b t) at ho5; clear o5 ho4 hb4; obtain ⟨A5, c5, rfl⟩ := Kd.R_slice ho5)
    | (go_at_call 53; refine (crc_sumI A5 c5 (pairB a s b t) _ (Kd.R_reads' ho5).2.2 (pairB_ok a s b t)).mono ?_; rw [HR.out]; rintro e w6 ⟨rfl, hb6⟩))
  go_ret
  exact ⟨rfl, hb5.trans (hb6.mono hb5.size)⟩

theorem below_bytes (W : World) (e : TypeId) (s : ByteArray) : Below W.heap.size W (Lib.bytesWorld W e s) := bytes_below (Below.refl _ _) (Nat.le_refl _) e s
set_option maxHeartbeats 2000000 in
set_option maxRecDepth 100000 in
theorem ref_bytesOf (a : Int) (s : ByteArray) (w : World) (hs : s.size ≤ 1000000000) :
    Calls Try.prog 55 #[.int .i64 a, .string s] w fun e w' => ∃ v, e = .returned v ∧ Kd.R (Kd.int .u8) 5 w' w.heap.size (fun _ => True) v (nodeB a s) ∧ Below w.heap.size w w' := by
  have kb := fun W => print_bytes (P := Try.prog) 9 63 5 Try.underlying9 Try.underlying63 Try.underlying5 s W
  go_enter Try.func55, Try.ntmps55
  go_wp2_with (first
    | ((with_reducible refine gate_dst (N := 7) rfl ?_); refine Kd.R_lit (Kd.int .u8) w.heap.size 5 ?hg (N := 7) ?hd (xs := [a % 256]) (inner := [.int .u8 (a % 256)]) (ok := fun _ => True) (okp := fun _ => True) ?hr ?hp (fun _ hk => hk) trivial (Below.refl _ _) (Nat.le_refl _) (by simp) ?_; (case hd => rfl); (case hg => rfl); (case hr => first | (go_simp; done) | (go_simp; rfl)); (case hp => exact (Reps.one (show Kd.M (Kd.int .u8) _ _ _ (a % 256) [.int .u8 (a % 256)] from rfl) (Reps.none _ _))); intro v1 w1 ho1 hb1 _ _)
    | (at_builtin; refine print_append_row (w0 := w) w.heap.size rfl (.tmp 7) (.tmp 9) 63 5 .u8 1 rfl Try.underlying63 info_u8 (by decide) v1 ([a % 256]) (bytesOf s) (some ⟨w1.heap.size, 0, none⟩) s.size (grownCap w1 s.size 0 5) rfl rfl (Kd.own_of_R (Kd.R_below ho1 (below_bytes w1 5 s))) (bytes_reads w1 5 s (by omega)) (hb1.trans ((below_bytes w1 5 s).mono hb1.size)) (hb1.trans ((below_bytes w1 5 s).mono hb1.size)).size (by simp [bytesOf_length]; omega) ?_; intro v4 w4 o4 hb4 _ _; have ho4 := Kd.R_of_own (h1 := fun _ => rfl) (ok := fun _ => True) o4 (fun _ _ => trivial)))
  go_ret
  exact ⟨_, rfl, ho4, hb4⟩
set_option maxHeartbeats 2000000 in
set_option maxRecDepth 100000 in
theorem rf_node (a : Int) (s : ByteArray) (w : World) (hs : s.size ≤ 1000000000) :
    Calls Try.prog 29 #[.int .i64 a, .string s] w fun e w' => e = .returned (.int .i64 (nodeF a s)) ∧ Below w.heap.size w w' := by
  obtain ⟨hr1, hr2⟩ := crcI_range _ (nodeB_ok a s)
  obtain ⟨r, hr⟩ : ∃ r, crcI (nodeB a s) = r := ⟨_, rfl⟩
  have HR := Hid.mk' hr
  unfold nodeF
  rw [hr] at hr1 hr2 ⊢
  clear hr
  go_enter Try.func29, Try.ntmps29
  go_wp2_with (first
    | (go_at_call 55; refine (ref_bytesOf a s _ hs).mono ?_; rintro e w2 ⟨v2, rfl, ho2, hb2⟩; obtain ⟨A2, c2, rfl⟩ := Kd.R_slice ho2)
    | (go_at_call 54; refine (ref_sumI A2 c2 (nodeB a s) _ (Kd.R_reads' ho2).2.2 (nodeB_ok a s)).mono ?_; rw [HR.out]; rintro e w3 ⟨rfl, rfl⟩))
  go_ret
  exact ⟨rfl, hb2⟩
set_option maxHeartbeats 4000000 in
set_option maxRecDepth 100000 in
theorem rf_pair (a : Int) (s : ByteArray) (b : Int) (t : ByteArray) (w : World) (hs : s.size ≤ 1000000000) (ht : t.size ≤ 1000000000) :
    Calls Try.prog 31 #[.int .i64 a, .string s, .int .i64 b, .string t] w fun e w' => e = .returned (.int .i64 (pairF a s b t)) ∧ Below w.heap.size w w' := by
  obtain ⟨hr1, hr2⟩ := crcI_range _ (pairB_ok a s b t)
  obtain ⟨r, hr⟩ : ∃ r, crcI (pairB a s b t) = r := ⟨_, rfl⟩
  have HR := Hid.mk' hr
  unfold pairF
  rw [hr] at hr1 hr2 ⊢
  clear hr
  have hpb : pairB a s b t = (nodeB a s ++ [0]) ++ nodeB b t := by unfold pairB nodeB; simp
  have HP := Hid.mk' hpb
  clear hpb
  have hl1 : (nodeB a s).length ≤ 1000000001 := by unfold nodeB; simp [bytesOf_length]; omega
  have hl2 : (nodeB b t).length ≤ 1000000001 := by unfold nodeB; simp [bytesOf_length]; omega
  go_enter Try.func31, Try.ntmps31
  go_wp2_with (first
    | (go_at_call 55; ((with_reducible refine (ref_bytesOf a s _ hs).mono ?_); rintro e w2 ⟨v2, rfl, ho2, hb2⟩))
    | ((with_reducible refine gate_dst (N := 13) rfl ?_); refine Kd.R_lit (Kd.int .u8) w.heap.size 5 ?hg (N := 13) ?hd (xs := [0]) (inner := [.int .u8 0]) (ok := fun _ => True) (okp := fun _ => True) ?hr ?hp (fun _ hk => hk) trivial hb2 hb2.size (by simp) ?_; (case hd => rfl); (case hg => rfl); (case hr => first | (go_simp; done) | (go_simp; rfl)); (case hp => exact (Reps.one (show Kd.M (Kd.int .u8) _ _ _ (0) [.int .u8 (0)] from rfl) (Reps.none _ _))); intro v3 w3 ho3 hb3 hg3 _; have ho2' := Kd.R_grown ho2 hg3 (fun _ _ => by simp); obtain ⟨A3, c3, rfl⟩ := Kd.R_slice ho3)
    | (at_builtin; refine print_append_row (w0 := w) w.heap.size rfl (.tmp 12) (.tmp 13) 63 5 .u8 1 rfl Try.underlying63 info_u8 (by decide) v2 (nodeB a s) ([0]) A3 1 c3 rfl rfl (Kd.own_of_R ho2') (Kd.reads_of_C (d := (0 : Int)) (h1 := fun _ => rfl) (Kd.R_reads' ho3).2.2) hb3 hb3.size (by omega) ?_; intro v4 w4 o4 hb4 _ _; have ho4 := Kd.R_of_own (h1 := fun _ => rfl) (ok := fun _ => True) o4 (fun _ _ => trivial); clear o4 ho2 ho2' ho3 hb2 hb3))
  refine (ref_bytesOf b t _ ht).mono ?_
  rintro e w5 ⟨v5, rfl, ho5, hb5⟩
  have hb45 : Below w.heap.size w w5 := hb4.trans (hb5.mono hb4.size)
  have ho45 := Kd.R_below ho4 hb5
  obtain ⟨A5, c5, rfl⟩ := Kd.R_slice ho5
  go_wp2_with (first
    | (at_builtin; refine print_append_row (w0 := w) w.heap.size rfl (.tmp 15) (.tmp 18) 63 5 .u8 1 rfl Try.underlying63 info_u8 (by decide) v4 (nodeB a s ++ [0]) (nodeB b t) A5 (nodeB b t).length c5 rfl rfl (Kd.own_of_R ho45) (Kd.reads_of_C (d := (0 : Int)) (h1 := fun _ => rfl) (Kd.R_reads' ho5).2.2) hb45 hb45.size (by rw [List.length_append]; simp only [List.length_singleton]; omega) ?_; intro v6 w6 o6 hb6 _ _; have ho6 := Kd.R_of_own (h1 := fun _ => rfl) (ok := fun _ => True) o6 (fun _ _ => trivial); change Kd.R (Kd.int .u8) _ w6 w.heap.size (fun _ => True) v6 _ at ho6; rw [← HP.out] at ho6; clear o6 ho4 ho45 ho5 hb4 hb5 hb45; obtain ⟨A6, c6, rfl⟩ := Kd.R_slice ho6)
    | (go_at_call 54; refine (ref_sumI A6 c6 (pairB a s b t) _ (Kd.R_reads' ho6).2.2 (pairB_ok a s b t)).mono ?_; rw [HR.out]; rintro e w7 ⟨rfl, rfl⟩))
  go_ret
  exact ⟨rfl, hb6⟩
end Go.Proofs.Ytlnoadnejefmoaa
