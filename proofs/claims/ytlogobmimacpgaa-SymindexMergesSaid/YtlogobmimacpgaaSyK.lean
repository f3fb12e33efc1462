/- Without: its closure, IndexFunc, DeleteFunc, and itself. At most 1000000 occurrences. -/
import Derived.Test.YtlogobmimacpgaaSyE
import Derived.Test.YtlogobmimacpgaaL32x5
set_option linter.unusedVariables false
set_option linter.unusedSimpArgs false
namespace Go.Proofs.Ytlogobmimacpgaa.L32
open Go.RowKit Go.Lib Go.Sort Go.Shelf Go.Proofs.YtlogobmimacpgaaW.PrintWords
/-- The captured list lies below block B, in every world that is as w0 below it. -/
structure Held (w0 : World) (bx : Nat) (dead : List Int) : Prop where
  lt : bx < w0.heap.size
  cell : ∃ A c, w0.cell? ⟨bx, 0, none⟩ = some (.slice A dead.length c) ∧ Kd.C (Kd.int .i64) w0 A dead.length dead
theorem contains_w (w : World) (A : Option Addr) (c : Nat) (dead : List Int) (x : Int) (h : Kd.C (Kd.int .i64) w A dead.length dead) :
    Calls Try.prog 43 #[.slice A dead.length c, .int .i64 x] w fun e w' => e = .returned (.bool (dead.contains x)) ∧ w' = w := by
  obtain ⟨_, hn, hc⟩ := h
  rcases Nat.eq_zero_or_pos dead.length with h0 | h0
  · obtain rfl : dead = [] := List.eq_nil_of_length_eq_zero h0
    exact Try.slices_Contains_int_empty A c x w
  · obtain ⟨ad, rfl, hcc⟩ := hc h0
    have hcell : ∀ j, j < dead.length → w.cell? (ad.add j) = some (.int .i64 (dead.getD j 0)) := fun j hj => by
      obtain ⟨cs, hl, hK, hu⟩ := hcc j dead[j] (List.getElem?_eq_getElem hj)
      have hK : cs = [.int .i64 dead[j]] := hK
      subst hK
      have h1 := hu 0 _ rfl
      have : (Kd.int .i64).sz = 1 := rfl
      rw [this, Nat.mul_one, Nat.add_zero] at h1
      rw [h1, List.getD_eq_getElem?_getD, List.getElem?_eq_getElem hj]
      rfl
    obtain ⟨b, off, sp⟩ := ad
    have hsp : sp = none := by
      have := World.cell?_spot (hcell 0 h0)
      simpa [Addr.add] using this
    subst hsp
    have h2 := Try.slices_Contains_int b off dead.length c dead x w (Nat.le_refl _) hn (fun j hj => by
      have h3 := hcell j hj
      have : (⟨b, off, none⟩ : Addr).add j = ⟨b, off + j, none⟩ := by unfold Addr.add; split <;> simp_all
      rwa [this] at h3)
    rwa [List.take_length] at h2
set_option maxHeartbeats 1000000 in
theorem without1_w (w0 W : World) (bx : Nat) (dead : List Int) (hH : Held w0 bx dead) (hB : Below w0.heap.size w0 W) (x : S56) :
    Calls Try.prog 42 #[.agg #[.int .i64 x.f0, .int .i64 x.f1, .int .i64 x.f2, .string x.f3], .pointer (some ⟨bx, 0, none⟩)] W fun e W' => e = .returned (.bool (dead.contains x.f0)) ∧ ∃ q os, W' = grow (W.drewN q) os := by
  obtain ⟨A, c, hc, hC⟩ := hH.cell
  have hlt := hH.lt
  have hs := hB.size
  have hc2 : W.cell? ⟨bx, 0, none⟩ = some (.slice A dead.length c) := by rw [hB.cell (by exact hlt)]; exact hc
  have hC2 := Kd.C_below hC hB
  have hc3 : (W.alloc (.cells #[.int .i64 x.f0, .int .i64 x.f1, .int .i64 x.f2, .string x.f3] 56)).cell? ⟨bx, 0, none⟩ = some (.slice A dead.length c) := by
    rw [(below_alloc (Below.refl W.heap.size W) _).cell (by show bx < _; omega)]; exact hc2
  clear hH
  have hcall := fun W2 h => contains_w W2 A c dead x.f0 h
  obtain ⟨r, hr⟩ : ∃ r, dead.contains x.f0 = r := ⟨_, rfl⟩
  rw [hr]
  simp only [hr] at hcall
  clear hr
  go_enter Try.func42, Try.ntmps42
  go_wp2_with (go_at_call 43; refine (hcall _ (by (with_reducible repeat (first | exact hC2 | apply Kd.C_alloc | apply Kd.C_drewN | apply Kd.C_drew)))).mono ?_; rintro e w' ⟨rfl, rfl⟩)
  go_ret
  exact ⟨rfl, 0, _, by simp only [alloc_eq_grow, grow_grow]; rfl⟩
end Go.Proofs.Ytlogobmimacpgaa.L32
set_option linter.unusedVariables false
set_option linter.unusedSimpArgs false
namespace Go.Proofs.Ytlogobmimacpgaa.L32
open Go.RowKit Go.Lib Go.Sort Go.Shelf Go.Proofs.YtlogobmimacpgaaW.PrintWords
def inDead (dead : List Int) (x : S56) : Bool := dead.contains x.f0
def idxI (dead : List Int) (xs : List S56) : Int := match xs.findIdx? (inDead dead) with
  | some k => (k : Int)
  | none => -1
theorem idx_some {dead : List Int} {xs : List S56} {k : Nat} {x : S56} (hx : xs[k]? = some x) (hp : inDead dead x = true) (h : ∀ j y, j < k → xs[j]? = some y → inDead dead y = false) : idxI dead xs = k := by
  obtain ⟨hk, e⟩ := List.getElem?_eq_some_iff.1 hx
  have : xs.findIdx? (inDead dead) = some k := by
    rw [List.findIdx?_eq_some_iff_getElem]
    refine ⟨hk, by rw [e]; exact hp, fun j hj => ?_⟩
    rw [h j _ hj (List.getElem?_eq_getElem (by omega))]
    simp
  unfold idxI
  rw [this]
theorem idx_none {dead : List Int} {xs : List S56} (h : ∀ j y, j < xs.length → xs[j]? = some y → inDead dead y = false) : idxI dead xs = -1 := by
  have : xs.findIdx? (inDead dead) = none := by
    rw [List.findIdx?_eq_none_iff]
    intro x hx
    obtain ⟨j, hj, e⟩ := List.getElem_of_mem hx
    exact h j x hj (by rw [← e]; exact List.getElem?_eq_getElem hj)
  unfold idxI
  rw [this]
theorem Row4.below {w w' : World} {g : Nat} {ys : List S56} {tl : List Value} (h : Row4 w g ys tl) (hb : Below w.heap.size w w') : Row4 w' g ys tl := by
  unfold Row4
  rw [hb.block g (Array.getElem?_eq_some_iff.1 h).1]
  exact h
theorem below_grow0 (w : World) (q : Nat) (os : Array Obj) : Below w.heap.size w (grow (w.drewN q) os) :=
  ⟨rfl, rfl, rfl, by simp, fun j hj => by rw [heap_grow_old _ _ (by simpa using hj)]; rfl⟩
set_option maxHeartbeats 4000000 in
theorem indexFunc_w (w0 W : World) (bx : Nat) (dead : List Int) (hH : Held w0 bx dead) (hB : Below w0.heap.size w0 W) (g cap : Nat) (xs : List S56) (tl : List Value) (hR : Row4 W g xs tl) (hm : xs.length ≤ 1000000) :
    Calls Try.prog 57 #[.slice (some ⟨g, 0, none⟩) xs.length cap, .func (.func 42) #[] #[.pointer (some ⟨bx, 0, none⟩)]] W fun e W' => e = .returned (.int .i64 (idxI dead xs)) ∧ Below W.heap.size W W' := by
  obtain ⟨r, hr⟩ : ∃ r, idxI dead xs = r := ⟨_, rfl⟩
  rw [hr]
  have HR := Hid.mk' hr
  clear hr
  go_enter Try.func57, Try.ntmps57
  go_wp2
  go_loopw [8] (fun i wr => ∃ k, i = .int .i64 ((k : Nat) : Int) ∧ k ≤ xs.length ∧ Below W.heap.size W wr ∧ Hid (∀ j y, j < k → xs[j]? = some y → inDead dead y = false)) (fun i _ => xs.length - (intOf i).toNat)
  case atStart => exact ⟨0, rfl, by omega, Below.refl _ _, Hid.mk' (fun j y h => by omega)⟩
  case round =>
    obtain ⟨k, rfl, hk, hBr, hall⟩ := hrel
    by_cases hlt : k < xs.length
    · have hlti : (k : Int) < xs.length := by omega
      obtain ⟨x, hx⟩ : ∃ x, xs[k]? = some x := ⟨_, List.getElem?_eq_getElem hlt⟩
      obtain ⟨z0, z1, z2, z3⟩ := (hR.below hBr).at k x hx
      have HX := Hid.mk' hx
      clear hx
      have hcall := fun (W2 : World) (h : Below w0.heap.size w0 W2) => without1_w w0 W2 bx dead hH h x
      obtain ⟨p, hp⟩ : ∃ p, dead.contains x.f0 = p := ⟨_, rfl⟩
      simp only [hp] at hcall
      have HP := Hid.mk' hp
      clear hp
      have hB2 := below_then hB hB.size hBr
      cases p with
      | true =>
        go_wp2_with (go_at_call 42; refine (hcall _ hB2).mono ?_; rintro e w' ⟨rfl, q, os, rfl⟩)
        go_ret
        refine ⟨ret_int (by rw [← HR.out, idx_some HX.out HP.out hall.out]), ?_⟩
        exact below_step hBr (below_grow0 _ _ _)
      | false =>
        go_wp2_with (go_at_call 42; refine (hcall _ hB2).mono ?_; rintro e w' ⟨rfl, q, os, rfl⟩)
        go_roundw
        case rel => exact ⟨k + 1, by go_num, by omega, below_step hBr (below_grow0 _ _ _), Hid.mk' (fun j y hj hy => by
          rcases Nat.lt_or_ge j k with h | h
          · exact hall.out j y h hy
          · obtain rfl : j = k := by omega
            rw [HX.out] at hy
            injection hy with hy
            rw [← hy]
            exact HP.out)⟩
        case measure => simp [intOf]; omega
    · obtain rfl : k = xs.length := by omega
      go_wp2
      go_ret
      exact ⟨ret_int (by rw [← HR.out, idx_none hall.out]), hBr⟩
end Go.Proofs.Ytlogobmimacpgaa.L32
set_option linter.unusedVariables false
set_option linter.unusedSimpArgs false
namespace Go.Proofs.Ytlogobmimacpgaa.L32
open Go.RowKit Go.Lib Go.Sort Go.Shelf Go.Proofs.YtlogobmimacpgaaW.PrintWords
def keepL (dead : List Int) (xs : List S56) : List S56 := xs.filter fun x => !inDead dead x
theorem keep_step {dead : List Int} {xs : List S56} {d : Nat} {x : S56} (h : xs[d]? = some x) : keepL dead (xs.take (d + 1)) = if inDead dead x then keepL dead (xs.take d) else keepL dead (xs.take d) ++ [x] := by
  rw [take_get xs d x h]
  unfold keepL
  rw [List.filter_append]
  cases e : inDead dead x <;> simp [List.filter_cons, e]
theorem keep_le (dead : List Int) (xs : List S56) : (keepL dead xs).length ≤ xs.length := List.length_filter_le _ _
theorem box4 {w w' : World} {x : S56} (h : Below (w.alloc (.cells #[.int .i64 x.f0, .int .i64 x.f1, .int .i64 x.f2, .string x.f3] 56)).heap.size (w.alloc (.cells #[.int .i64 x.f0, .int .i64 x.f1, .int .i64 x.f2, .string x.f3] 56)) w') :
    w'.cell? ⟨w.heap.size, 0, none⟩ = some (.int .i64 x.f0) ∧ w'.cell? ⟨w.heap.size, 1, none⟩ = some (.int .i64 x.f1) ∧ w'.cell? ⟨w.heap.size, 2, none⟩ = some (.int .i64 x.f2) ∧ w'.cell? ⟨w.heap.size, 3, none⟩ = some (.string x.f3) := by
  have hl : w.heap.size < (w.alloc (.cells #[.int .i64 x.f0, .int .i64 x.f1, .int .i64 x.f2, .string x.f3] 56)).heap.size := by simp
  have h1 := heap_alloc_new w (.cells #[.int .i64 x.f0, .int .i64 x.f1, .int .i64 x.f2, .string x.f3] 56)
  refine ⟨?_, ?_, ?_, ?_⟩
  all_goals
    rw [h.cell (by exact hl), blk_cell h1]
    first | done | rfl
theorem grown_below {w w' : World} {r : Option Nat} (h : Below w.heap.size w w') : w.grownBy w' r := ⟨h.os, h.tape, h.output, h.size, fun j hj _ => h.block j hj⟩
set_option maxHeartbeats 8000000 in
theorem deleteFunc_w (w0 W : World) (bx : Nat) (dead : List Int) (hH : Held w0 bx dead) (hB : Below w0.heap.size w0 W) (g cap : Nat) (hg0 : w0.heap.size ≤ g) (xs : List S56) (tl : List Value) (hR : Row4 W g xs tl) (hm : xs.length ≤ 1000000) (hcap : xs.length ≤ cap) :
    Calls Try.prog 40 #[.slice (some ⟨g, 0, none⟩) xs.length cap, .func (.func 42) #[] #[.pointer (some ⟨bx, 0, none⟩)]] W fun e W' => e = .returned (.slice (some ⟨g, 0, none⟩) (keepL dead xs).length cap) ∧ W.grownBy W' (some g) ∧ ∃ ys, ys.length = xs.length ∧ Row4 W' g ys tl ∧ ys.take (keepL dead xs).length = keepL dead xs := by
  have hi := indexFunc_w w0 W bx dead hH hB g cap xs tl hR hm
  cases hf : xs.findIdx? (inDead dead) with
  | none =>
    have e1 : idxI dead xs = -1 := by unfold idxI; rw [hf]
    have e2 : keepL dead xs = xs := by
      rw [List.findIdx?_eq_none_iff] at hf
      exact List.filter_eq_self.2 fun x hx => by rw [hf x hx]; rfl
    rw [e1] at hi
    rw [e2]
    clear hf
    go_enter Try.func40, Try.ntmps40
    go_wp2_with (go_at_call 57; refine hi.mono ?_; rintro e w' ⟨rfl, hb⟩)
    go_ret
    exact ⟨rfl, ⟨hb.os, hb.tape, hb.output, hb.size, fun j hj _ => hb.block j hj⟩, xs, rfl, hR.below hb, List.take_length⟩
  | some k0 =>
    have e1 : idxI dead xs = k0 := by unfold idxI; rw [hf]
    rw [e1] at hi
    rw [List.findIdx?_eq_some_iff_getElem] at hf
    obtain ⟨hk0, hp0, hall⟩ := hf
    have hs0 : keepL dead (xs.take (k0 + 1)) = xs.take k0 := by
      rw [keep_step (List.getElem?_eq_getElem hk0), if_pos hp0]
      refine List.filter_eq_self.2 fun x hx => ?_
      obtain ⟨j, hj, e⟩ := List.getElem_of_mem hx
      rw [List.length_take] at hj
      have := hall j (by omega)
      rw [List.getElem_take] at e
      rw [e] at this
      simpa using this
    clear hall hp0
    have HS0 := Hid.mk' hs0
    clear hs0
    have hne1 : ((k0 : Int) == -1) = false := by simp
    go_enter Try.func40, Try.ntmps40
    go_wp2_with (go_at_call 57; refine hi.mono ?_; rintro e w1 ⟨rfl, hb⟩)
    have hRw := hR.below hb
    have hgW : W.grownBy w1 (some g) := ⟨hb.os, hb.tape, hb.output, hb.size, fun j hj _ => hb.block j hj⟩
    go_loopw [5, 6] (fun i i2 wr => ∃ (c d : Nat) (ys : List S56), i = .int .i64 c ∧ i2 = .int .i64 (d : Int) ∧ c + 1 ≤ d ∧ d ≤ xs.length ∧ ys.length = xs.length ∧ W.grownBy wr (some g) ∧ Row4 wr g ys tl ∧ Hid (c = (keepL dead (xs.take d)).length) ∧ Hid (ys.take c = keepL dead (xs.take d)) ∧ Hid (ys.drop d = xs.drop d)) (fun _ i2 _ => xs.length - (intOf i2).toNat)
    case atStart => exact ⟨k0, k0 + 1, xs, rfl, by go_num, by omega, by omega, rfl, hgW, hRw, by rw [HS0.out, List.length_take]; exact (Nat.min_eq_left (by omega)).symm, by rw [HS0.out]; exact Hid.mk' rfl, Hid.mk' rfl⟩
    case round =>
      obtain ⟨c, d, ys, rfl, rfl, hcd, hd, hyl, hg2, hR2, H1, H2, H3⟩ := hrel
      by_cases hj : d < xs.length
      · have hji : (d : Int) < xs.length := by omega
        obtain ⟨x, hx⟩ : ∃ x, xs[d]? = some x := ⟨_, List.getElem?_eq_getElem hj⟩
        have hst := keep_step (dead := dead) hx
        obtain ⟨p0, p1, p2, p3⟩ := hR2.at d x (by rw [drop_get H3.out _ (by omega)]; exact hx)
        have hc0 : (0 : Int) ≤ (c : Int) := by omega
        have hc1 : (c : Int) < xs.length := by omega
        have HD := Hid.mk' (drop_more H3.out (show d ≤ d + 1 from by omega))
        have hcall := fun (W2 : World) (h : Below w0.heap.size w0 W2) => without1_w w0 W2 bx dead hH h x
        have hB2 : Below w0.heap.size w0 wr := hB.grown hg2 hB.size (fun j hj => by cases hj; exact hg0)
        clear hx
        obtain ⟨p, hp⟩ : ∃ p, dead.contains x.f0 = p := ⟨_, rfl⟩
        simp only [inDead, hp] at hst
        simp only [hp] at hcall
        clear hp
        cases p with
        | true =>
          rw [if_pos rfl] at hst
          have HST := Hid.mk' hst
          clear hst
          go_wp2_with (go_at_call 42; refine (hcall _ (hB2.alloc hB2.size _)).mono ?_; rintro e w2 ⟨rfl, q, os, hw2⟩; have hb2 := below_grow0 (wr.alloc (.cells #[.int .i64 x.f0, .int .i64 x.f1, .int .i64 x.f2, .string x.f3] 56)) q os; rw [← hw2] at hb2; clear hw2; have hbw := below_step (below_alloc (Below.refl wr.heap.size wr) _) hb2)
          go_roundw
          case rel => exact ⟨c, d + 1, ys, rfl, by go_num, by omega, by omega, hyl, grown_trans0 hg2 (grown_below hbw), hR2.below hbw, by rw [HST.out]; exact H1, by rw [HST.out]; exact H2, HD⟩
          case measure => simp [intOf]; omega
        | false =>
          rw [if_neg (by simp)] at hst
          have HST := Hid.mk' hst
          clear hst
          have hce := hcall (wr.alloc (.cells #[.int .i64 x.f0, .int .i64 x.f1, .int .i64 x.f2, .string x.f3] 56)) (hB2.alloc hB2.size _)
          have hce2 : Calls Try.prog 42 #[.agg #[.int .i64 x.f0, .int .i64 x.f1, .int .i64 x.f2, .string x.f3], .pointer (some ⟨bx, 0, none⟩)] (wr.alloc (.cells #[.int .i64 x.f0, .int .i64 x.f1, .int .i64 x.f2, .string x.f3] 56)) fun e w2 => e = .returned (.bool false) ∧ Below wr.heap.size wr w2 ∧ w2.cell? ⟨wr.heap.size, 0, none⟩ = some (.int .i64 x.f0) ∧ w2.cell? ⟨wr.heap.size, 1, none⟩ = some (.int .i64 x.f1) ∧ w2.cell? ⟨wr.heap.size, 2, none⟩ = some (.int .i64 x.f2) ∧ w2.cell? ⟨wr.heap.size, 3, none⟩ = some (.string x.f3) :=
            hce.mono fun e w2 ⟨h1, q, os, hw2⟩ => by
              have hb2 := below_grow0 (wr.alloc (.cells #[.int .i64 x.f0, .int .i64 x.f1, .int .i64 x.f2, .string x.f3] 56)) q os
              rw [← hw2] at hb2
              exact ⟨h1, below_step (below_alloc (Below.refl wr.heap.size wr) _) hb2, box4 hb2⟩
          clear hce hcall
          go_wp2_with (first
            | (go_at_call 42; refine hce2.mono ?_; rintro e w2 ⟨rfl, hbw, y0, y1, y2, y3⟩)
            | (refine wpList_store4 (g := g) (c := c) (ys := ys) (tl := tl) x rfl rfl _ _ rfl rfl rfl (hR2.below hbw) (by omega) ?_; intro w5 hR5 hg5))
          go_roundw
          case rel => exact ⟨c + 1, d + 1, ys.set c x, by go_num, by go_num, by omega, by omega, by simp [hyl], grown_trans0 (grown_trans0 hg2 (grown_below hbw)) hg5, hR5, by rw [HST.out, List.length_append, ← H1.out]; rfl, by
            rw [HST.out, ← H2.out, set_split ys c x (by omega)]
            rw [List.take_append, List.length_take, Nat.min_eq_left (by omega), List.take_of_length_le (by rw [List.length_take]; omega), show c + 1 - c = 1 from by omega]
            exact Hid.mk' rfl, by rw [List.drop_set_of_lt (by omega)]; exact HD⟩
          case measure => simp [intOf]; omega
      · obtain rfl : d = xs.length := by omega
        rw [List.take_of_length_le (Nat.le_refl _)] at H1 H2
        have hc0 : (0 : Int) ≤ (c : Int) := by omega
        have hc1 : (c : Int) ≤ xs.length := by omega
        have hcc : c ≤ xs.length := by omega
        have hne2 : ¬ cap = c := by omega
        go_wp2_with (refine wpList_clear4 (g := g) (c := c) (ys := ys) (tl := tl) rfl _ rfl rfl (by omega) (by omega) (by omega) hR2 ?_; intro w5 hR5 hg5)
        go_ret
        exact ⟨ret_slice H1.out, grown_trans0 hg2 hg5, _, by simp; omega, hR5, by rw [← H1.out, List.take_left' (by rw [List.length_take]; omega)]; exact H2.out⟩
end Go.Proofs.Ytlogobmimacpgaa.L32
set_option linter.unusedVariables false
set_option linter.unusedSimpArgs false
namespace Go.Proofs.Ytlogobmimacpgaa.L32
open Go.RowKit Go.Lib Go.Sort Go.Shelf Go.Proofs.YtlogobmimacpgaaW.PrintWords
def allS (l : List S58) : List S56 := l.flatMap (·.f1)
theorem allS_take (l : List S58) (n : Nat) (h : n < l.length) : allS (l.take (n + 1)) = allS (l.take n) ++ (rd_T58 l (n : Int)).f1 := by
  rw [take_get l n l[n] (List.getElem?_eq_getElem h)]
  have : rd_T58 l (n : Int) = l[n] := by
    unfold rd_T58
    rw [Int.toNat_natCast, List.getD_eq_getElem?_getD, List.getElem?_eq_getElem h]
    rfl
  rw [this]
  unfold allS
  rw [List.flatMap_append]
  simp
theorem allS_le (l : List S58) (n : Nat) : (allS (l.take n)).length ≤ (allS l).length := by
  have : allS l = allS (l.take n) ++ allS (l.drop n) := by unfold allS; rw [← List.flatMap_append, List.take_append_drop]
  rw [this, List.length_append]
  omega
theorem all_from (l : List S58) (hl : l.length ≤ 1000000) (ha : (allS l).length ≤ 1000000) : ∀ (d n k : Nat), n + d = l.length → d < k → symindex_all.l0 k (allS (l.take n)) l (l.length : Int) (n : Int) = some (allS l) := by
  intro d
  induction d with
  | zero =>
    intro n k hn hk
    obtain ⟨k, rfl⟩ : ∃ q, k = q + 1 := ⟨k - 1, by omega⟩
    obtain rfl : n = l.length := by omega
    unfold symindex_all.l0
    rw [if_neg (by omega), List.take_of_length_le (Nat.le_refl _)]
  | succ d ih =>
    intro n k hn hk
    obtain ⟨k, rfl⟩ : ∃ q, k = q + 1 := ⟨k - 1, by omega⟩
    have h1 := ih (n + 1) k (by omega) (by omega)
    have h2 := allS_le l (n + 1)
    rw [allS_take l n (by omega)] at h1 h2
    rw [List.length_append] at h2
    unfold symindex_all.l0
    rw [if_pos (by omega), if_pos (by omega), if_pos (by omega), if_pos (by omega), wrap_in _ (by omega) (by omega)]
    rw [show ((n + 1 : Nat) : Int) = (n : Int) + 1 from by omega] at h1
    exact h1
theorem all_f (l : List S58) (hl : l.length ≤ 1000000) (ha : (allS l).length ≤ 1000000) (k : Nat) (hk : l.length < k) : symindex_all.f k l = some (allS l) := all_from l hl ha l.length 0 k (by omega) hk
def symindex_Without.f (l : List S58) (dead : List Int) : Option (List S58) := if l.length ≤ 1000000 ∧ (allS l).length ≤ 1000000 then symindex_index.f (keepL dead (allS l)) else none
/-- A row of one's own of occurrences: its cells. -/
theorem own_flat {w : World} {base : Nat} {v : Value} {xs : List S56} (h : Kd.R k56 56 w base (fun _ => True) v xs) : w.ownsRow base 56 4 v xs.length (flat encS xs) := by
  obtain ⟨_, inner, ho, hr⟩ := h
  have e : inner = flat encS xs := by
    apply List.ext_getElem?
    intro t
    by_cases ht : t < xs.length * 4
    · rw [flat_get encS_len (by omega) xs t ht]
      have hq : t / 4 < xs.length := by omega
      have h1 := hr.2 (t / 4) _ (List.getElem?_eq_getElem hq)
      have h2 : (inner.drop (t / 4 * 4)).take 4 = encS xs[t / 4] := k56_openM h1
      rw [List.getElem?_eq_getElem hq]
      simp only [Option.getD_some]
      rw [← h2, List.getElem?_take_of_lt (by omega), List.getElem?_drop]
      congr 1
      omega
    · have hl : inner.length = xs.length * 4 := ho.1
      rw [List.getElem?_eq_none (by omega), List.getElem?_eq_none (by rw [flat_len encS_len]; omega)]
  rw [← e]
  exact ho
set_option maxHeartbeats 1000000 in
theorem indexFunc_nil (A : Option Addr) (cap : Nat) (fv : Value) (w : World) :
    Calls Try.prog 57 #[.slice A 0 cap, fv] w fun e w' => e = .returned (.int .i64 (-1)) ∧ w' = w := by
  go_enter Try.func57, Try.ntmps57
  go_wp2
  refine wp_loop_rounds 1 ?_
  rw [rounds_succ]
  go_wp2
  go_ret
  exact ⟨rfl, rfl⟩
set_option maxHeartbeats 1000000 in
theorem deleteFunc_nil (A : Option Addr) (cap : Nat) (fv : Value) (w : World) :
    Calls Try.prog 40 #[.slice A 0 cap, fv] w fun e w' => e = .returned (.slice A 0 cap) ∧ w' = w := by
  go_enter Try.func40, Try.ntmps40
  go_wp2_with (go_at_call 57; refine (indexFunc_nil _ _ _ _).mono ?_; rintro e w' ⟨rfl, rfl⟩)
  go_ret
  exact ⟨rfl, rfl⟩
set_option maxHeartbeats 4000000 in
theorem symindex_Without.calls (A0 : Option Addr) (c0 : Nat) (l0 : List S58) (A1 : Option Addr) (c1 : Nat) (l1 : List Int) (r : List S58) (w : World) (hr0 : Kd.C k58 w A0 l0.length l0) (hc0 : l0.length ≤ c0) (hr1 : Kd.C (Kd.int .i64) w A1 l1.length l1) (hc1 : l1.length ≤ c1) (h : symindex_Without.f l0 l1 = some r) :
    Calls Try.prog 24 #[.slice A0 l0.length c0, .slice A1 l1.length c1] w fun e w' => ∃ v0_ : Value, e = .returned (v0_) ∧ Kd.N k58 58 w' w.heap.size (fun k_ => w.heap.size ≤ k_) v0_ r ∧ Below w.heap.size w w' := by
  unfold symindex_Without.f at h
  split at h
  next hle =>
    obtain ⟨hl, ha⟩ := hle
    obtain ⟨w0, hw0⟩ : ∃ w0, w.alloc (.cells #[.slice A1 l1.length c1] 41) = w0 := ⟨_, rfl⟩
    have hs0 : w0.heap.size = w.heap.size + 1 := by rw [← hw0]; simp
    have hH : Held w0 w.heap.size l1 := ⟨by omega, A1, c1, by rw [← hw0, blk_cell (heap_alloc_new _ _)]; rfl, by rw [← hw0]; exact Kd.C_alloc hr1 _⟩
    have hB0 : Below w.heap.size w w0 := by rw [← hw0]; exact below_alloc (Below.refl _ _) _
    have hall := symindex_all.calls (l0.length + 1) A0 c0 l0 (allS l0) w0 (by rw [← hw0]; exact Kd.C_alloc hr0 _) hc0 (all_f l0 hl ha _ (by omega))
    have hidx := h
    clear hr0 hr1 h
    by_cases he : allS l0 = []
    · have hk : keepL l1 (allS l0) = [] := by rw [he]; rfl
      rw [hk] at hidx
      have hall2 : Calls Try.prog 41 #[.slice A0 l0.length c0] w0 fun e w1 => ∃ A cap, e = .returned (.slice A 0 cap) ∧ Below w0.heap.size w0 w1 := hall.mono fun e w1 ⟨v, h1, hR, hB⟩ => by
        rcases (own_flat hR).2 with ⟨hnil, _⟩ | ⟨g, cap, cur, hv, _⟩
        · exact ⟨none, 0, by rw [h1, hnil], hB⟩
        · rw [he] at hv
          exact ⟨_, cap, by rw [h1, hv]; rfl, hB⟩
      have hcall := fun (A : Option Addr) (cap : Nat) (w1 : World) => symindex_index.calls A cap [] r w1 ⟨rfl, by simp, fun h => absurd h (Nat.lt_irrefl 0)⟩ (Nat.zero_le _) hidx
      clear hall
      go_enter Try.func24, Try.ntmps24
      go_wp2_with (first
        | (go_at_call 41; refine hall2.mono ?_; rintro e w1 ⟨A, cap, rfl, hB1⟩)
        | (go_at_call 40; refine (deleteFunc_nil _ _ _ _).mono ?_; rintro e w2 ⟨rfl, rfl⟩)
        | (go_at_call 31; refine (hcall _ _ _).mono ?_; rintro e w3 ⟨v, rfl, hN, hB3⟩))
      go_ret
      have hs2 := hB1.size
      have hs3 := hB3.size
      exact ⟨_, rfl, Kd.N_mono (Kd.N_lower hN (by omega)) (fun k hk => by omega), below_step hB0 (below_step hB1 hB3)⟩
    · have hall2 : Calls Try.prog 41 #[.slice A0 l0.length c0] w0 fun e w1 => ∃ g cap tl, e = .returned (.slice (some ⟨g, 0, none⟩) (allS l0).length cap) ∧ Below w0.heap.size w0 w1 ∧ w0.heap.size ≤ g ∧ (allS l0).length ≤ cap ∧ Row4 w1 g (allS l0) tl := hall.mono fun e w1 ⟨v, h1, hR, hB⟩ => by
        have hrow := own_flat hR
        rcases hrow.2 with ⟨hnil, h0⟩ | ⟨g, cap, cur, hv, hbase, hb, hc, _⟩
        · exact absurd (List.eq_nil_of_length_eq_zero h0) he
        · rw [hv] at hrow
          obtain ⟨tl, hR4⟩ := row4_own hrow
          exact ⟨g, cap, tl, by rw [h1, hv], hB, hbase, hc, hR4⟩
      have hkl := keep_le l1 (allS l0)
      have hdel := fun (g cap : Nat) (tl : List Value) (w1 : World) (hB : Below w0.heap.size w0 w1) (hg : w0.heap.size ≤ g) (hc : (allS l0).length ≤ cap) (hR : Row4 w1 g (allS l0) tl) => deleteFunc_w w0 w1 w.heap.size l1 hH hB g cap hg (allS l0) tl hR ha hc
      have hcall := fun (g cap : Nat) (w1 : World) (ys : List S56) (tl : List Value) (hc : (keepL l1 (allS l0)).length ≤ cap) (hR : Row4 w1 g ys tl) (ht : ys.take (keepL l1 (allS l0)).length = keepL l1 (allS l0)) => symindex_index.calls (some ⟨g, 0, none⟩) cap (keepL l1 (allS l0)) r w1 (row4_C hR rfl ht (by omega)) hc hidx
      clear hall
      go_enter Try.func24, Try.ntmps24
      go_wp2_with (first
        | (go_at_call 41; refine hall2.mono ?_; rintro e w1 ⟨g, cap, tl, rfl, hB1, hg, hc, hR⟩)
        | (go_at_call 40; refine (hdel g cap tl _ hB1 hg hc hR).mono ?_; rintro e w2 ⟨rfl, hg2, ys, hyl, hR2, ht⟩)
        | (go_at_call 31; refine (hcall g cap _ ys tl (by omega) hR2 ht).mono ?_; rintro e w3 ⟨v, rfl, hN, hB3⟩))
      go_ret
      have hs1 := hB1.size
      have hs2 := hg2.size
      have hs3 := hB3.size
      exact ⟨_, rfl, Kd.N_mono (Kd.N_lower hN (by omega)) (fun k hk => by omega), below_then ((below_step hB0 hB1).grown hg2 (by omega) (fun j hj => by cases hj; omega)) (by omega) hB3⟩
  next => cases h
end Go.Proofs.Ytlogobmimacpgaa.L32
