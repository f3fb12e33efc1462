/- The machine's side of some functions, written by a program of this session out of the translation: each function as a plain function, and its contract. For arguments for which the plain function answers. -/
import Derived.Test.YtlogobmimacpgaaL32x0
namespace Go.Proofs.Ytlogobmimacpgaa.L32
open Go.RowKit Go.Proofs.YtlogobmimacpgaaW.PrintWords Go.Proofs.YtlogobmimacpgaaW.PrintLast Go.Proofs.YtlogobmimacpgaaW.PrintMore
attribute [local go_sem] max2_int min2_int max_two min_two max_three min_three max_four min_four   -- for this text's walks alone
set_option linter.unusedVariables false
set_option linter.unusedSimpArgs false

/-! ### codesearchref14_Get: function 33 -/
def codesearchref14_Get.l0 : Nat → List (S30) → Int → Int → Option (Int × Int × ByteArray × Int × ByteArray × List ByteArray × List ByteArray × Bool × Int × Int × Int × Bool)
  | 0, _, _, _ => none
  | k + 1, x0, x1, x6 => if x6 < (x0.length : Int) then (if 0 ≤ x6 then (if ((rd_T30 x0 x6).f0) = x1 then (some ((rd_T30 x0 x6).f0, (rd_T30 x0 x6).f1, (rd_T30 x0 x6).f2, (rd_T30 x0 x6).f3, (rd_T30 x0 x6).f4, (rd_T30 x0 x6).f5, (rd_T30 x0 x6).f6, (rd_T30 x0 x6).f7, (rd_T30 x0 x6).f8, (rd_T30 x0 x6).f9, (rd_T30 x0 x6).f10, true)) else (codesearchref14_Get.l0 k x0 x1 (wrap64 (x6 + 1)))) else (none)) else (some (0, 0, (⟨#[]⟩ : ByteArray), 0, (⟨#[]⟩ : ByteArray), ([] : List ByteArray), ([] : List ByteArray), false, 0, 0, 0, false))
def codesearchref14_Get.f (k : Nat) (l0 : List (S30)) (a1 : Int) : Option (Int × Int × ByteArray × Int × ByteArray × List ByteArray × List ByteArray × Bool × Int × Int × Int × Bool) := codesearchref14_Get.l0 k l0 a1 0
set_option maxHeartbeats 8000000 in
set_option maxRecDepth 100000 in
theorem codesearchref14_Get.calls (k : Nat) (P0_ : Nat → Prop) (A0 : Option Addr) (c0 : Nat) (l0 : List (S30)) (a1 : Int) (r1 : Int) (r2 : Int) (r3 : ByteArray) (r4 : Int) (r5 : ByteArray) (r6 : List ByteArray) (r7 : List ByteArray) (r8 : Bool) (r9 : Int) (r10 : Int) (r11 : Int) (r12 : Bool) (w : World) (hs0 : Kd.V k30 30 w w.heap.size (fun k_ => P0_ k_) (.slice A0 l0.length c0) l0) (h : codesearchref14_Get.f k l0 a1 = some (r1, r2, r3, r4, r5, r6, r7, r8, r9, r10, r11, r12)) :
    Calls Try.prog 33 #[.slice A0 l0.length c0, .int .i64 a1] w fun e w' => ∃ v5_ v6_ : Value, e = .returned (.tuple #[.agg #[.int .i64 r1, .int .i64 r2, .string r3, .int .i64 r4, .string r5, v5_, v6_, .bool r8, .int .i64 r9, .int .i64 r10, .int .i64 r11], .bool r12]) ∧ Kd.V Kd.string 9 w' w.heap.size (fun k_ => (P0_ k_ ∨ w.heap.size ≤ k_)) v5_ r6 ∧ Kd.V Kd.string 9 w' w.heap.size (fun k_ => (P0_ k_ ∨ w.heap.size ≤ k_)) v6_ r7 ∧ Below w.heap.size w w' := by
  have hu30 := Try.underlying30
  have HO0 := Aside0.mk (show Kd.V k30 30 w w.heap.size (fun k_ => (P0_ k_ ∨ w.heap.size ≤ k_)) (.slice A0 l0.length c0) l0 from Kd.V_mono hs0 (fun k_ hk => .inl hk))
  have HB := Aside0.mk (Below.refl w.heap.size w)
  have H : (codesearchref14_Get.l0 k l0 a1 0) = some (r1, r2, r3, r4, r5, r6, r7, r8, r9, r10, r11, r12) := h
  clear h
  have H' := Aside0.mk H
  clear H
  go_enter Try.func33, Try.ntmps33
  go_wp2_with (first | ((with_reducible refine gate_dst (N := 4) rfl ?_); refine box_event ?hg (N := 4) ?hd (cs := #[.int .i64 0, .int .i64 0, .string (⟨#[]⟩ : ByteArray), .int .i64 0, .string (⟨#[]⟩ : ByteArray), .slice none 0 0, .slice none 0 0, .bool false, .int .i64 0, .int .i64 0, .int .i64 0]) (t := 30) ?hr ?_; (case hd => rfl); (case hg => rfl); (case hr => first | (go_simp; done) | (go_simp; rfl)); intro gb311 hg w3 hbox hb; have n0_ := Aside0.mk (Kd.V_below (Kd.V_elderB (by (with_reducible repeat (first | apply Kd.V_alloc | apply Kd.V_drewN | apply Kd.V_drew)); exact HO0.out) gb311 (Nat.le_of_eq hg.symm)) hb); have n1_ := Aside0.mk (below_step (by repeat (first | (with_reducible first | exact HB.out | apply below_alloc | apply pw_below_drewN | apply below_drew1) | exact HB.out)) hb); have n2_ := Aside0.mk (hbox); have n3_ := Aside0.mk ((by rw [hg]; exact (below_size (by repeat (first | (with_reducible first | exact HB.out | apply below_alloc | apply pw_below_drewN | apply below_drew1) | exact HB.out))) : w.heap.size ≤ gb311)); have n4_ := Aside0.mk ((by rw [hg]; exact (below_size (by repeat (first | (with_reducible first | exact HB.out | apply below_alloc | apply pw_below_drewN | apply below_drew1) | exact HB.out))) : w.heap.size ≤ gb311)); clear HO0; clear HB; have HO0 := n0_; have HB := n1_; have BK311 := n2_; have GW311 := n3_; have GE311 := n4_; clear n0_ n1_ n2_ n3_ n4_; clear hb hbox hg))
  go_loopg [6] k (fun kq v6 w' => ∃ (x6_1 : Int) (x312000_1 : Int) (x312001_1 : Int) (x312002_1 : ByteArray) (x312003_1 : Int) (x312004_1 : ByteArray) (x312007_1 : Bool) (x312008_1 : Int) (x312009_1 : Int) (x312010_1 : Int), v6 = .int .i64 x6_1 ∧ Aside0 (codesearchref14_Get.l0 kq l0 a1 x6_1 = some (r1, r2, r3, r4, r5, r6, r7, r8, r9, r10, r11, r12)) ∧ Aside0 (kq ≤ k) ∧ Aside0 (Kd.V k30 30 w' w.heap.size (fun k_ => (P0_ k_ ∨ w.heap.size ≤ k_) ∧ k_ ≠ gb311) (.slice A0 l0.length c0) l0) ∧ Aside0 (w'.heap[gb311]? = some (.cells #[.int .i64 x312000_1, .int .i64 x312001_1, .string x312002_1, .int .i64 x312003_1, .string x312004_1, (.slice none 0 0), (.slice none 0 0), .bool x312007_1, .int .i64 x312008_1, .int .i64 x312009_1, .int .i64 x312010_1] 30 (0, 0))) ∧ Aside0 (Below w.heap.size w w'))
  case atStart => exact ⟨(0), (0), (0), ((⟨#[]⟩ : ByteArray)), (0), ((⟨#[]⟩ : ByteArray)), (false), (0), (0), (0), (by first | rfl | (simp; done) | (simp [*]; done)), H', ⟨Nat.le_refl _⟩, ⟨by (with_reducible repeat (first | apply Kd.V_alloc | apply Kd.V_drewN | apply Kd.V_drew)); exact HO0.out⟩, ⟨by (with_reducible repeat (first | refine blk_drewN ?_ _ | refine blk_drew ?_ | refine blk_alloc ?_ _)); exact BK311.out⟩, ⟨by repeat (first | (with_reducible first | exact HB.out | apply below_alloc | apply pw_below_drewN | apply below_drew1 | refine below_set ?_ GE311.out) | exact HB.out)⟩⟩
  case round =>
    clear H'
    try clear p2
    try clear c3
    obtain ⟨x6_1, x312000_1, x312001_1, x312002_1, x312003_1, x312004_1, x312007_1, x312008_1, x312009_1, x312010_1, rfl, HA, HK1, HO_0, BK311, HB⟩ := hrel
    cases gk with
    | zero => exact absurd HA.out (by simp [codesearchref14_Get.l0])
    | succ k1 =>
      have H := HA.out
      clear HA
      simp only [codesearchref14_Get.l0] at H
      by_cases c4 : x6_1 < (l0.length : Int)
      · rw [if_pos c4] at H
        have c4b0 : decide (x6_1 < (l0.length : Int)) = true := decide_eq_true c4
        clear c4
        by_cases c5 : 0 ≤ x6_1
        · rw [if_pos c5] at H
          have c5b0 : decide (0 ≤ x6_1) = true := decide_eq_true c5
          clear c5
          by_cases c6 : ((rd_T30 l0 x6_1).f0) = a1
          · rw [if_pos c6] at H
            have c6b0 : (((rd_T30 l0 x6_1).f0) == a1) = true := beq_iff_eq.mpr c6
            have c6b1 : (((rd_T30 l0 x6_1).f0) != a1) = false := bne_eq_false_iff_eq.mpr c6
            clear c6
            simp only [Option.some.injEq, Prod.mk.injEq] at H
            obtain ⟨rfl, rfl, rfl, rfl, rfl, rfl, rfl, rfl, rfl, rfl, rfl, rfl⟩ := H
            have p312 : 0 ≤ (x6_1 : Int) := of_decide_eq_true (by first | (with_reducible assumption) | assumption)
            have q312 : x6_1 < (l0.length : Int) := of_decide_eq_true (by first | (with_reducible assumption) | assumption)
            obtain ⟨ad312, A312_5, c312_5, A312_6, c312_6, e312, hx312_0, hx312_1, hx312_2, hx312_3, hx312_4, hx312_5, hx312_6, hx312_7, hx312_8, hx312_9, hx312_10, hl312_5, hi312_5, hl312_6, hi312_6⟩ := at_T30 (Kd.V_reads' HO_0.out).2.2 x6_1 p312 q312
            cases e312
            obtain ⟨ce312, hce312, hMe312, hcc312⟩ := Kd.V_get HO_0.out z30 x6_1 p312 (by first | exact q312 | exact of_decide_eq_true (by first | (with_reducible assumption) | assumption) | (have e_ := (Kd.V_reads' HO_0.out).1; omega))
            obtain ⟨ua312_5, uc312_5, ua312_6, uc312_6, rfl, ul312_5, ge312_5, ul312_6, ge312_6⟩ := k30_openF hMe312
            have hv312_5 := hcc312 5 _ rfl
            rw [add_field _ _ 5 (by omega)] at hv312_5
            replace hv312_5 := Option.some.inj (hv312_5.symm.trans hx312_5)
            injection hv312_5 with hva_ hvn_ hvc_
            rw [hva_] at ge312_5
            rw [hvc_] at ul312_5
            have HL312_5 := Aside0.mk (show Kd.V Kd.string 9 _ w.heap.size _ _ ((rd_T30 l0 x6_1).f5) from Kd.V_mk ul312_5 ge312_5)
            clear hva_ hvn_ hvc_ ge312_5 ul312_5
            have hv312_6 := hcc312 6 _ rfl
            rw [add_field _ _ 6 (by omega)] at hv312_6
            replace hv312_6 := Option.some.inj (hv312_6.symm.trans hx312_6)
            injection hv312_6 with hva_ hvn_ hvc_
            rw [hva_] at ge312_6
            rw [hvc_] at ul312_6
            have HL312_6 := Aside0.mk (show Kd.V Kd.string 9 _ w.heap.size _ _ ((rd_T30 l0 x6_1).f6) from Kd.V_mk ul312_6 ge312_6)
            clear hva_ hvn_ hvc_ ge312_6 ul312_6
            clear hcc312 hce312
            have HR312_5 := Aside0.mk hi312_5
            have HC312_5 := Aside0.mk hl312_5
            clear hi312_5 hl312_5
            have HR312_6 := Aside0.mk hi312_6
            have HC312_6 := Aside0.mk hl312_6
            clear hi312_6 hl312_6
            replace p312 := eq_true p312
            replace q312 := eq_true q312
            have p313 : 0 ≤ (x6_1 : Int) := of_decide_eq_true (by first | (with_reducible assumption) | assumption)
            have q313 : x6_1 < (l0.length : Int) := of_decide_eq_true (by first | (with_reducible assumption) | assumption)
            obtain ⟨ad313, A313_5, c313_5, A313_6, c313_6, e313, hx313_0, hx313_1, hx313_2, hx313_3, hx313_4, hx313_5, hx313_6, hx313_7, hx313_8, hx313_9, hx313_10, hl313_5, hi313_5, hl313_6, hi313_6⟩ := at_T30 (Kd.V_reads' HO_0.out).2.2 x6_1 p313 q313
            obtain rfl : ad312 = ad313 := (by injection e313)
            obtain ⟨ce313, hce313, hMe313, hcc313⟩ := Kd.V_get HO_0.out z30 x6_1 p313 (by first | exact q313 | exact of_decide_eq_true (by first | (with_reducible assumption) | assumption) | (have e_ := (Kd.V_reads' HO_0.out).1; omega))
            obtain ⟨ua313_5, uc313_5, ua313_6, uc313_6, rfl, ul313_5, ge313_5, ul313_6, ge313_6⟩ := k30_openF hMe313
            have hv313_5 := hcc313 5 _ rfl
            rw [add_field _ _ 5 (by omega)] at hv313_5
            replace hv313_5 := Option.some.inj (hv313_5.symm.trans hx313_5)
            injection hv313_5 with hva_ hvn_ hvc_
            rw [hva_] at ge313_5
            rw [hvc_] at ul313_5
            have HL313_5 := Aside0.mk (show Kd.V Kd.string 9 _ w.heap.size _ _ ((rd_T30 l0 x6_1).f5) from Kd.V_mk ul313_5 ge313_5)
            clear hva_ hvn_ hvc_ ge313_5 ul313_5
            have hv313_6 := hcc313 6 _ rfl
            rw [add_field _ _ 6 (by omega)] at hv313_6
            replace hv313_6 := Option.some.inj (hv313_6.symm.trans hx313_6)
            injection hv313_6 with hva_ hvn_ hvc_
            rw [hva_] at ge313_6
            rw [hvc_] at ul313_6
            have HL313_6 := Aside0.mk (show Kd.V Kd.string 9 _ w.heap.size _ _ ((rd_T30 l0 x6_1).f6) from Kd.V_mk ul313_6 ge313_6)
            clear hva_ hvn_ hvc_ ge313_6 ul313_6
            clear hcc313 hce313
            have HR313_5 := Aside0.mk hi313_5
            have HC313_5 := Aside0.mk hl313_5
            clear hi313_5 hl313_5
            have HR313_6 := Aside0.mk hi313_6
            have HC313_6 := Aside0.mk hl313_6
            clear hi313_6 hl313_6
            replace p313 := eq_true p313
            replace q313 := eq_true q313
            have ea_ := Option.some.inj (hx312_5.symm.trans hx313_5)
            injection ea_ with ea_ en_ ec_
            subst ea_
            subst ec_
            clear en_
            have ea_ := Option.some.inj (hx312_6.symm.trans hx313_6)
            injection ea_ with ea_ en_ ec_
            subst ea_
            subst ec_
            clear en_
            have hcz7_0 : wr.cell? ⟨gb311, 0, none⟩ = some (.int .i64 x312000_1) := (blk_cell BK311.out 0).trans rfl
            have hcz7_1 : wr.cell? ⟨gb311, 1, none⟩ = some (.int .i64 x312001_1) := (blk_cell BK311.out 1).trans rfl
            have hcz7_2 : wr.cell? ⟨gb311, 2, none⟩ = some (.string x312002_1) := (blk_cell BK311.out 2).trans rfl
            have hcz7_3 : wr.cell? ⟨gb311, 3, none⟩ = some (.int .i64 x312003_1) := (blk_cell BK311.out 3).trans rfl
            have hcz7_4 : wr.cell? ⟨gb311, 4, none⟩ = some (.string x312004_1) := (blk_cell BK311.out 4).trans rfl
            have hcz7_5 : wr.cell? ⟨gb311, 5, none⟩ = some (.slice none 0 0) := (blk_cell BK311.out 5).trans rfl
            have hcz7_6 : wr.cell? ⟨gb311, 6, none⟩ = some (.slice none 0 0) := (blk_cell BK311.out 6).trans rfl
            have hcz7_7 : wr.cell? ⟨gb311, 7, none⟩ = some (.bool x312007_1) := (blk_cell BK311.out 7).trans rfl
            have hcz7_8 : wr.cell? ⟨gb311, 8, none⟩ = some (.int .i64 x312008_1) := (blk_cell BK311.out 8).trans rfl
            have hcz7_9 : wr.cell? ⟨gb311, 9, none⟩ = some (.int .i64 x312009_1) := (blk_cell BK311.out 9).trans rfl
            have hcz7_10 : wr.cell? ⟨gb311, 10, none⟩ = some (.int .i64 x312010_1) := (blk_cell BK311.out 10).trans rfl
            have hfz7_0 := blk_frozen BK311.out 0
            have hfz7_1 := blk_frozen BK311.out 1
            have hfz7_2 := blk_frozen BK311.out 2
            have hfz7_3 := blk_frozen BK311.out 3
            have hfz7_4 := blk_frozen BK311.out 4
            have hfz7_5 := blk_frozen BK311.out 5
            have hfz7_6 := blk_frozen BK311.out 6
            have hfz7_7 := blk_frozen BK311.out 7
            have hfz7_8 := blk_frozen BK311.out 8
            have hfz7_9 := blk_frozen BK311.out 9
            have hfz7_10 := blk_frozen BK311.out 10
            go_wp2
            refine bodyPost_ret (results_ct rfl _ _ gb311 30 #[.int .i64 ((rd_T30 l0 x6_1).f0), .int .i64 ((rd_T30 l0 x6_1).f1), .string ((rd_T30 l0 x6_1).f2), .int .i64 ((rd_T30 l0 x6_1).f3), .string ((rd_T30 l0 x6_1).f4), .slice A312_5 ((rd_T30 l0 x6_1).f5).length c312_5, .slice A312_6 ((rd_T30 l0 x6_1).f6).length c312_6, .bool ((rd_T30 l0 x6_1).f7), .int .i64 ((rd_T30 l0 x6_1).f8), .int .i64 ((rd_T30 l0 x6_1).f9), .int .i64 ((rd_T30 l0 x6_1).f10)] (0, 0) _ rfl (by (with_reducible repeat (first | refine blk_drewN ?_ _ | refine blk_drew ?_ | refine blk_alloc ?_ _)); refine blk_put (cs := #[.int .i64 ((rd_T30 l0 x6_1).f0), .int .i64 ((rd_T30 l0 x6_1).f1), .string ((rd_T30 l0 x6_1).f2), .int .i64 ((rd_T30 l0 x6_1).f3), .string ((rd_T30 l0 x6_1).f4), .slice A312_5 ((rd_T30 l0 x6_1).f5).length c312_5, .slice A312_6 ((rd_T30 l0 x6_1).f6).length c312_6, .bool ((rd_T30 l0 x6_1).f7), .int .i64 ((rd_T30 l0 x6_1).f8), .int .i64 ((rd_T30 l0 x6_1).f9), .int .i64 x312010_1]) ?_ 10 _ rfl; (with_reducible repeat (first | refine blk_drewN ?_ _ | refine blk_drew ?_ | refine blk_alloc ?_ _)); refine blk_put (cs := #[.int .i64 ((rd_T30 l0 x6_1).f0), .int .i64 ((rd_T30 l0 x6_1).f1), .string ((rd_T30 l0 x6_1).f2), .int .i64 ((rd_T30 l0 x6_1).f3), .string ((rd_T30 l0 x6_1).f4), .slice A312_5 ((rd_T30 l0 x6_1).f5).length c312_5, .slice A312_6 ((rd_T30 l0 x6_1).f6).length c312_6, .bool ((rd_T30 l0 x6_1).f7), .int .i64 ((rd_T30 l0 x6_1).f8), .int .i64 x312009_1, .int .i64 x312010_1]) ?_ 9 _ rfl; (with_reducible repeat (first | refine blk_drewN ?_ _ | refine blk_drew ?_ | refine blk_alloc ?_ _)); refine blk_put (cs := #[.int .i64 ((rd_T30 l0 x6_1).f0), .int .i64 ((rd_T30 l0 x6_1).f1), .string ((rd_T30 l0 x6_1).f2), .int .i64 ((rd_T30 l0 x6_1).f3), .string ((rd_T30 l0 x6_1).f4), .slice A312_5 ((rd_T30 l0 x6_1).f5).length c312_5, .slice A312_6 ((rd_T30 l0 x6_1).f6).length c312_6, .bool ((rd_T30 l0 x6_1).f7), .int .i64 x312008_1, .int .i64 x312009_1, .int .i64 x312010_1]) ?_ 8 _ rfl; (with_reducible repeat (first | refine blk_drewN ?_ _ | refine blk_drew ?_ | refine blk_alloc ?_ _)); refine blk_put (cs := #[.int .i64 ((rd_T30 l0 x6_1).f0), .int .i64 ((rd_T30 l0 x6_1).f1), .string ((rd_T30 l0 x6_1).f2), .int .i64 ((rd_T30 l0 x6_1).f3), .string ((rd_T30 l0 x6_1).f4), .slice A312_5 ((rd_T30 l0 x6_1).f5).length c312_5, .slice A312_6 ((rd_T30 l0 x6_1).f6).length c312_6, .bool x312007_1, .int .i64 x312008_1, .int .i64 x312009_1, .int .i64 x312010_1]) ?_ 7 _ rfl; (with_reducible repeat (first | refine blk_drewN ?_ _ | refine blk_drew ?_ | refine blk_alloc ?_ _)); refine blk_put (cs := #[.int .i64 ((rd_T30 l0 x6_1).f0), .int .i64 ((rd_T30 l0 x6_1).f1), .string ((rd_T30 l0 x6_1).f2), .int .i64 ((rd_T30 l0 x6_1).f3), .string ((rd_T30 l0 x6_1).f4), .slice A312_5 ((rd_T30 l0 x6_1).f5).length c312_5, .slice none 0 0, .bool x312007_1, .int .i64 x312008_1, .int .i64 x312009_1, .int .i64 x312010_1]) ?_ 6 _ rfl; (with_reducible repeat (first | refine blk_drewN ?_ _ | refine blk_drew ?_ | refine blk_alloc ?_ _)); refine blk_put (cs := #[.int .i64 ((rd_T30 l0 x6_1).f0), .int .i64 ((rd_T30 l0 x6_1).f1), .string ((rd_T30 l0 x6_1).f2), .int .i64 ((rd_T30 l0 x6_1).f3), .string ((rd_T30 l0 x6_1).f4), .slice none 0 0, .slice none 0 0, .bool x312007_1, .int .i64 x312008_1, .int .i64 x312009_1, .int .i64 x312010_1]) ?_ 5 _ rfl; (with_reducible repeat (first | refine blk_drewN ?_ _ | refine blk_drew ?_ | refine blk_alloc ?_ _)); refine blk_put (cs := #[.int .i64 ((rd_T30 l0 x6_1).f0), .int .i64 ((rd_T30 l0 x6_1).f1), .string ((rd_T30 l0 x6_1).f2), .int .i64 ((rd_T30 l0 x6_1).f3), .string x312004_1, .slice none 0 0, .slice none 0 0, .bool x312007_1, .int .i64 x312008_1, .int .i64 x312009_1, .int .i64 x312010_1]) ?_ 4 _ rfl; (with_reducible repeat (first | refine blk_drewN ?_ _ | refine blk_drew ?_ | refine blk_alloc ?_ _)); refine blk_put (cs := #[.int .i64 ((rd_T30 l0 x6_1).f0), .int .i64 ((rd_T30 l0 x6_1).f1), .string ((rd_T30 l0 x6_1).f2), .int .i64 x312003_1, .string x312004_1, .slice none 0 0, .slice none 0 0, .bool x312007_1, .int .i64 x312008_1, .int .i64 x312009_1, .int .i64 x312010_1]) ?_ 3 _ rfl; (with_reducible repeat (first | refine blk_drewN ?_ _ | refine blk_drew ?_ | refine blk_alloc ?_ _)); refine blk_put (cs := #[.int .i64 ((rd_T30 l0 x6_1).f0), .int .i64 ((rd_T30 l0 x6_1).f1), .string x312002_1, .int .i64 x312003_1, .string x312004_1, .slice none 0 0, .slice none 0 0, .bool x312007_1, .int .i64 x312008_1, .int .i64 x312009_1, .int .i64 x312010_1]) ?_ 2 _ rfl; (with_reducible repeat (first | refine blk_drewN ?_ _ | refine blk_drew ?_ | refine blk_alloc ?_ _)); refine blk_put (cs := #[.int .i64 ((rd_T30 l0 x6_1).f0), .int .i64 x312001_1, .string x312002_1, .int .i64 x312003_1, .string x312004_1, .slice none 0 0, .slice none 0 0, .bool x312007_1, .int .i64 x312008_1, .int .i64 x312009_1, .int .i64 x312010_1]) ?_ 1 _ rfl; (with_reducible repeat (first | refine blk_drewN ?_ _ | refine blk_drew ?_ | refine blk_alloc ?_ _)); refine blk_put (cs := #[.int .i64 x312000_1, .int .i64 x312001_1, .string x312002_1, .int .i64 x312003_1, .string x312004_1, .slice none 0 0, .slice none 0 0, .bool x312007_1, .int .i64 x312008_1, .int .i64 x312009_1, .int .i64 x312010_1]) ?_ 0 _ rfl; (with_reducible repeat (first | refine blk_drewN ?_ _ | refine blk_drew ?_ | refine blk_alloc ?_ _)); exact BK311.out) Try.underlying30 rfl (by kernel_rfl)) rfl ?_
            exact ⟨_, _, by first | rfl | (simp [errW_none, errW_some] <;> rfl) | (simp [*, errW_none, errW_some] <;> rfl), by (with_reducible repeat (first | apply Kd.V_alloc | apply Kd.V_drewN | apply Kd.V_drew)); exact Kd.V_mono (Kd.V_far (p := ⟨gb311, 10, none⟩) (Kd.V_far (p := ⟨gb311, 9, none⟩) (Kd.V_far (p := ⟨gb311, 8, none⟩) (Kd.V_far (p := ⟨gb311, 7, none⟩) (Kd.V_far (p := ⟨gb311, 6, none⟩) (Kd.V_far (p := ⟨gb311, 5, none⟩) (Kd.V_far (p := ⟨gb311, 4, none⟩) (Kd.V_far (p := ⟨gb311, 3, none⟩) (Kd.V_far (p := ⟨gb311, 2, none⟩) (Kd.V_far (p := ⟨gb311, 1, none⟩) (Kd.V_far (p := ⟨gb311, 0, none⟩) (Kd.V_mono HL313_5.out (fun k_ hk => (⟨hk, hk.2⟩ : _ ∧ k_ ≠ gb311))) (fun _ hk => hk.2) (.int .i64 ((rd_T30 l0 x6_1).f0))) (fun _ hk => hk.2) (.int .i64 ((rd_T30 l0 x6_1).f1))) (fun _ hk => hk.2) (.string ((rd_T30 l0 x6_1).f2))) (fun _ hk => hk.2) (.int .i64 ((rd_T30 l0 x6_1).f3))) (fun _ hk => hk.2) (.string ((rd_T30 l0 x6_1).f4))) (fun _ hk => hk.2) (.slice A312_5 ((rd_T30 l0 x6_1).f5).length c312_5)) (fun _ hk => hk.2) (.slice A312_6 ((rd_T30 l0 x6_1).f6).length c312_6)) (fun _ hk => hk.2) (.bool ((rd_T30 l0 x6_1).f7))) (fun _ hk => hk.2) (.int .i64 ((rd_T30 l0 x6_1).f8))) (fun _ hk => hk.2) (.int .i64 ((rd_T30 l0 x6_1).f9))) (fun _ hk => hk.2) (.int .i64 ((rd_T30 l0 x6_1).f10))) (fun _ hk => hk.1.1), by (with_reducible repeat (first | apply Kd.V_alloc | apply Kd.V_drewN | apply Kd.V_drew)); exact Kd.V_mono (Kd.V_far (p := ⟨gb311, 10, none⟩) (Kd.V_far (p := ⟨gb311, 9, none⟩) (Kd.V_far (p := ⟨gb311, 8, none⟩) (Kd.V_far (p := ⟨gb311, 7, none⟩) (Kd.V_far (p := ⟨gb311, 6, none⟩) (Kd.V_far (p := ⟨gb311, 5, none⟩) (Kd.V_far (p := ⟨gb311, 4, none⟩) (Kd.V_far (p := ⟨gb311, 3, none⟩) (Kd.V_far (p := ⟨gb311, 2, none⟩) (Kd.V_far (p := ⟨gb311, 1, none⟩) (Kd.V_far (p := ⟨gb311, 0, none⟩) (Kd.V_mono HL313_6.out (fun k_ hk => (⟨hk, hk.2⟩ : _ ∧ k_ ≠ gb311))) (fun _ hk => hk.2) (.int .i64 ((rd_T30 l0 x6_1).f0))) (fun _ hk => hk.2) (.int .i64 ((rd_T30 l0 x6_1).f1))) (fun _ hk => hk.2) (.string ((rd_T30 l0 x6_1).f2))) (fun _ hk => hk.2) (.int .i64 ((rd_T30 l0 x6_1).f3))) (fun _ hk => hk.2) (.string ((rd_T30 l0 x6_1).f4))) (fun _ hk => hk.2) (.slice A312_5 ((rd_T30 l0 x6_1).f5).length c312_5)) (fun _ hk => hk.2) (.slice A312_6 ((rd_T30 l0 x6_1).f6).length c312_6)) (fun _ hk => hk.2) (.bool ((rd_T30 l0 x6_1).f7))) (fun _ hk => hk.2) (.int .i64 ((rd_T30 l0 x6_1).f8))) (fun _ hk => hk.2) (.int .i64 ((rd_T30 l0 x6_1).f9))) (fun _ hk => hk.2) (.int .i64 ((rd_T30 l0 x6_1).f10))) (fun _ hk => hk.1.1), by repeat (first | (with_reducible first | exact HB.out | apply below_alloc | apply pw_below_drewN | apply below_drew1 | refine below_set ?_ GE311.out) | exact HB.out)⟩
          · rw [if_neg c6] at H
            have c6b0 : (((rd_T30 l0 x6_1).f0) == a1) = false := beq_eq_false_iff_ne.mpr c6
            have c6b1 : (((rd_T30 l0 x6_1).f0) != a1) = true := bne_iff_ne.mpr c6
            have H' := Aside0.mk H
            clear H
            have p312 : 0 ≤ (x6_1 : Int) := of_decide_eq_true (by first | (with_reducible assumption) | assumption)
            have q312 : x6_1 < (l0.length : Int) := of_decide_eq_true (by first | (with_reducible assumption) | assumption)
            obtain ⟨ad312, A312_5, c312_5, A312_6, c312_6, e312, hx312_0, hx312_1, hx312_2, hx312_3, hx312_4, hx312_5, hx312_6, hx312_7, hx312_8, hx312_9, hx312_10, hl312_5, hi312_5, hl312_6, hi312_6⟩ := at_T30 (Kd.V_reads' HO_0.out).2.2 x6_1 p312 q312
            cases e312
            obtain ⟨ce312, hce312, hMe312, hcc312⟩ := Kd.V_get HO_0.out z30 x6_1 p312 (by first | exact q312 | exact of_decide_eq_true (by first | (with_reducible assumption) | assumption) | (have e_ := (Kd.V_reads' HO_0.out).1; omega))
            obtain ⟨ua312_5, uc312_5, ua312_6, uc312_6, rfl, ul312_5, ge312_5, ul312_6, ge312_6⟩ := k30_openF hMe312
            have hv312_5 := hcc312 5 _ rfl
            rw [add_field _ _ 5 (by omega)] at hv312_5
            replace hv312_5 := Option.some.inj (hv312_5.symm.trans hx312_5)
            injection hv312_5 with hva_ hvn_ hvc_
            rw [hva_] at ge312_5
            rw [hvc_] at ul312_5
            have HL312_5 := Aside0.mk (show Kd.V Kd.string 9 _ w.heap.size _ _ ((rd_T30 l0 x6_1).f5) from Kd.V_mk ul312_5 ge312_5)
            clear hva_ hvn_ hvc_ ge312_5 ul312_5
            have hv312_6 := hcc312 6 _ rfl
            rw [add_field _ _ 6 (by omega)] at hv312_6
            replace hv312_6 := Option.some.inj (hv312_6.symm.trans hx312_6)
            injection hv312_6 with hva_ hvn_ hvc_
            rw [hva_] at ge312_6
            rw [hvc_] at ul312_6
            have HL312_6 := Aside0.mk (show Kd.V Kd.string 9 _ w.heap.size _ _ ((rd_T30 l0 x6_1).f6) from Kd.V_mk ul312_6 ge312_6)
            clear hva_ hvn_ hvc_ ge312_6 ul312_6
            clear hcc312 hce312
            have HR312_5 := Aside0.mk hi312_5
            have HC312_5 := Aside0.mk hl312_5
            clear hi312_5 hl312_5
            have HR312_6 := Aside0.mk hi312_6
            have HC312_6 := Aside0.mk hl312_6
            clear hi312_6 hl312_6
            replace p312 := eq_true p312
            replace q312 := eq_true q312
            go_wp2
            go_roundg k1
            case measure => have := HK1.out; omega
            case rel => exact ⟨(wrap64 (x6_1 + 1)), (x312000_1), (x312001_1), (x312002_1), (x312003_1), (x312004_1), (x312007_1), (x312008_1), (x312009_1), (x312010_1), (by first | rfl | (simp; done) | (simp [*]; done)), H', ⟨by have := HK1.out; omega⟩, ⟨by (with_reducible repeat (first | apply Kd.V_alloc | apply Kd.V_drewN | apply Kd.V_drew)); exact HO_0.out⟩, ⟨by (with_reducible repeat (first | refine blk_drewN ?_ _ | refine blk_drew ?_ | refine blk_alloc ?_ _)); exact BK311.out⟩, ⟨by repeat (first | (with_reducible first | exact HB.out | apply below_alloc | apply pw_below_drewN | apply below_drew1 | refine below_set ?_ GE311.out) | exact HB.out)⟩⟩
        · rw [if_neg c5] at H
          exact absurd H (by simp)
      · rw [if_neg c4] at H
        have c4b0 : decide (x6_1 < (l0.length : Int)) = false := decide_eq_false c4
        clear c4
        simp only [Option.some.injEq, Prod.mk.injEq] at H
        obtain ⟨rfl, rfl, rfl, rfl, rfl, rfl, rfl, rfl, rfl, rfl, rfl, rfl⟩ := H
        have hcz8_0 : wr.cell? ⟨gb311, 0, none⟩ = some (.int .i64 x312000_1) := (blk_cell BK311.out 0).trans rfl
        have hcz8_1 : wr.cell? ⟨gb311, 1, none⟩ = some (.int .i64 x312001_1) := (blk_cell BK311.out 1).trans rfl
        have hcz8_2 : wr.cell? ⟨gb311, 2, none⟩ = some (.string x312002_1) := (blk_cell BK311.out 2).trans rfl
        have hcz8_3 : wr.cell? ⟨gb311, 3, none⟩ = some (.int .i64 x312003_1) := (blk_cell BK311.out 3).trans rfl
        have hcz8_4 : wr.cell? ⟨gb311, 4, none⟩ = some (.string x312004_1) := (blk_cell BK311.out 4).trans rfl
        have hcz8_5 : wr.cell? ⟨gb311, 5, none⟩ = some (.slice none 0 0) := (blk_cell BK311.out 5).trans rfl
        have hcz8_6 : wr.cell? ⟨gb311, 6, none⟩ = some (.slice none 0 0) := (blk_cell BK311.out 6).trans rfl
        have hcz8_7 : wr.cell? ⟨gb311, 7, none⟩ = some (.bool x312007_1) := (blk_cell BK311.out 7).trans rfl
        have hcz8_8 : wr.cell? ⟨gb311, 8, none⟩ = some (.int .i64 x312008_1) := (blk_cell BK311.out 8).trans rfl
        have hcz8_9 : wr.cell? ⟨gb311, 9, none⟩ = some (.int .i64 x312009_1) := (blk_cell BK311.out 9).trans rfl
        have hcz8_10 : wr.cell? ⟨gb311, 10, none⟩ = some (.int .i64 x312010_1) := (blk_cell BK311.out 10).trans rfl
        have hfz8_0 := blk_frozen BK311.out 0
        have hfz8_1 := blk_frozen BK311.out 1
        have hfz8_2 := blk_frozen BK311.out 2
        have hfz8_3 := blk_frozen BK311.out 3
        have hfz8_4 := blk_frozen BK311.out 4
        have hfz8_5 := blk_frozen BK311.out 5
        have hfz8_6 := blk_frozen BK311.out 6
        have hfz8_7 := blk_frozen BK311.out 7
        have hfz8_8 := blk_frozen BK311.out 8
        have hfz8_9 := blk_frozen BK311.out 9
        have hfz8_10 := blk_frozen BK311.out 10
        go_wp2
        refine bodyPost_ret (results_ct rfl _ _ gb311 30 #[.int .i64 0, .int .i64 0, .string (⟨#[]⟩ : ByteArray), .int .i64 0, .string (⟨#[]⟩ : ByteArray), .slice none 0 0, .slice none 0 0, .bool false, .int .i64 0, .int .i64 0, .int .i64 0] (0, 0) _ rfl (by (with_reducible repeat (first | refine blk_drewN ?_ _ | refine blk_drew ?_ | refine blk_alloc ?_ _)); refine blk_put (cs := #[.int .i64 0, .int .i64 0, .string (⟨#[]⟩ : ByteArray), .int .i64 0, .string (⟨#[]⟩ : ByteArray), .slice none 0 0, .slice none 0 0, .bool false, .int .i64 0, .int .i64 0, .int .i64 x312010_1]) ?_ 10 _ rfl; (with_reducible repeat (first | refine blk_drewN ?_ _ | refine blk_drew ?_ | refine blk_alloc ?_ _)); refine blk_put (cs := #[.int .i64 0, .int .i64 0, .string (⟨#[]⟩ : ByteArray), .int .i64 0, .string (⟨#[]⟩ : ByteArray), .slice none 0 0, .slice none 0 0, .bool false, .int .i64 0, .int .i64 x312009_1, .int .i64 x312010_1]) ?_ 9 _ rfl; (with_reducible repeat (first | refine blk_drewN ?_ _ | refine blk_drew ?_ | refine blk_alloc ?_ _)); refine blk_put (cs := #[.int .i64 0, .int .i64 0, .string (⟨#[]⟩ : ByteArray), .int .i64 0, .string (⟨#[]⟩ : ByteArray), .slice none 0 0, .slice none 0 0, .bool false, .int .i64 x312008_1, .int .i64 x312009_1, .int .i64 x312010_1]) ?_ 8 _ rfl; (with_reducible repeat (first | refine blk_drewN ?_ _ | refine blk_drew ?_ | refine blk_alloc ?_ _)); refine blk_put (cs := #[.int .i64 0, .int .i64 0, .string (⟨#[]⟩ : ByteArray), .int .i64 0, .string (⟨#[]⟩ : ByteArray), .slice none 0 0, .slice none 0 0, .bool x312007_1, .int .i64 x312008_1, .int .i64 x312009_1, .int .i64 x312010_1]) ?_ 7 _ rfl; (with_reducible repeat (first | refine blk_drewN ?_ _ | refine blk_drew ?_ | refine blk_alloc ?_ _)); refine blk_put (cs := #[.int .i64 0, .int .i64 0, .string (⟨#[]⟩ : ByteArray), .int .i64 0, .string (⟨#[]⟩ : ByteArray), .slice none 0 0, .slice none 0 0, .bool x312007_1, .int .i64 x312008_1, .int .i64 x312009_1, .int .i64 x312010_1]) ?_ 6 _ rfl; (with_reducible repeat (first | refine blk_drewN ?_ _ | refine blk_drew ?_ | refine blk_alloc ?_ _)); refine blk_put (cs := #[.int .i64 0, .int .i64 0, .string (⟨#[]⟩ : ByteArray), .int .i64 0, .string (⟨#[]⟩ : ByteArray), .slice none 0 0, .slice none 0 0, .bool x312007_1, .int .i64 x312008_1, .int .i64 x312009_1, .int .i64 x312010_1]) ?_ 5 _ rfl; (with_reducible repeat (first | refine blk_drewN ?_ _ | refine blk_drew ?_ | refine blk_alloc ?_ _)); refine blk_put (cs := #[.int .i64 0, .int .i64 0, .string (⟨#[]⟩ : ByteArray), .int .i64 0, .string x312004_1, .slice none 0 0, .slice none 0 0, .bool x312007_1, .int .i64 x312008_1, .int .i64 x312009_1, .int .i64 x312010_1]) ?_ 4 _ rfl; (with_reducible repeat (first | refine blk_drewN ?_ _ | refine blk_drew ?_ | refine blk_alloc ?_ _)); refine blk_put (cs := #[.int .i64 0, .int .i64 0, .string (⟨#[]⟩ : ByteArray), .int .i64 x312003_1, .string x312004_1, .slice none 0 0, .slice none 0 0, .bool x312007_1, .int .i64 x312008_1, .int .i64 x312009_1, .int .i64 x312010_1]) ?_ 3 _ rfl; (with_reducible repeat (first | refine blk_drewN ?_ _ | refine blk_drew ?_ | refine blk_alloc ?_ _)); refine blk_put (cs := #[.int .i64 0, .int .i64 0, .string x312002_1, .int .i64 x312003_1, .string x312004_1, .slice none 0 0, .slice none 0 0, .bool x312007_1, .int .i64 x312008_1, .int .i64 x312009_1, .int .i64 x312010_1]) ?_ 2 _ rfl; (with_reducible repeat (first | refine blk_drewN ?_ _ | refine blk_drew ?_ | refine blk_alloc ?_ _)); refine blk_put (cs := #[.int .i64 0, .int .i64 x312001_1, .string x312002_1, .int .i64 x312003_1, .string x312004_1, .slice none 0 0, .slice none 0 0, .bool x312007_1, .int .i64 x312008_1, .int .i64 x312009_1, .int .i64 x312010_1]) ?_ 1 _ rfl; (with_reducible repeat (first | refine blk_drewN ?_ _ | refine blk_drew ?_ | refine blk_alloc ?_ _)); refine blk_put (cs := #[.int .i64 x312000_1, .int .i64 x312001_1, .string x312002_1, .int .i64 x312003_1, .string x312004_1, .slice none 0 0, .slice none 0 0, .bool x312007_1, .int .i64 x312008_1, .int .i64 x312009_1, .int .i64 x312010_1]) ?_ 0 _ rfl; (with_reducible repeat (first | refine blk_drewN ?_ _ | refine blk_drew ?_ | refine blk_alloc ?_ _)); exact BK311.out) Try.underlying30 rfl (by kernel_rfl)) rfl ?_
        exact ⟨_, _, by first | rfl | (simp [errW_none, errW_some] <;> rfl) | (simp [*, errW_none, errW_some] <;> rfl), Kd.V_nil _ _ _ _ _, Kd.V_nil _ _ _ _ _, by repeat (first | (with_reducible first | exact HB.out | apply below_alloc | apply pw_below_drewN | apply below_drew1 | refine below_set ?_ GE311.out) | exact HB.out)⟩

end Go.Proofs.Ytlogobmimacpgaa.L32
