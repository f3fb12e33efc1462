import Derived.Test.YtlnoadnejefmoaaRefH
set_option linter.unusedVariables false
set_option linter.unusedSimpArgs false
namespace Go.Proofs.Ytlnoadnejefmoaa
open Go.RowKit Go.Proofs.YtlnoadnejefmoaaW.PrintWords

def Tok.kt (x : Tok) : Int × ByteArray := (x.kind, x.text)
/-- The same kinds and texts. -/
def sameL (xs ys : List Tok) : Bool := decide (xs.map Tok.kt = ys.map Tok.kt)
theorem sameL_len {xs ys : List Tok} (h : xs.length ≠ ys.length) : sameL xs ys = false := by
  unfold sameL
  rw [decide_eq_false_iff_not]
  intro e
  have := congrArg List.length e
  simp at this
  exact h this
theorem getD_map (xs : List Tok) (k : Nat) (h : k < xs.length) : (xs.map Tok.kt)[k]? = some (xs.getD k tok0).kt := by
  simp [List.getElem?_map, List.getD, List.getElem?_eq_getElem h]
theorem sameL_ne {xs ys : List Tok} (k : Nat) (h1 : k < xs.length) (h2 : k < ys.length) (h : (xs.getD k tok0).kt ≠ (ys.getD k tok0).kt) : sameL xs ys = false := by
  unfold sameL
  rw [decide_eq_false_iff_not]
  intro e
  have := congrArg (fun l : List (Int × ByteArray) => l[k]?) e
  simp only [getD_map _ _ h1, getD_map _ _ h2, Option.some.injEq] at this
  exact h this
theorem sameL_all {xs ys : List Tok} (hl : xs.length = ys.length) (h : ∀ j, j < xs.length → (xs.getD j tok0).kt = (ys.getD j tok0).kt) : sameL xs ys = true := by
  unfold sameL
  rw [decide_eq_true_eq]
  apply List.ext_getElem?
  intro k
  rcases Nat.lt_or_ge k xs.length with h1 | h1
  · rw [getD_map _ _ h1, getD_map _ _ (by omega), h k h1]
  · rw [List.getElem?_eq_none (by simpa using h1), List.getElem?_eq_none (by simp; omega)]

theorem toList_beq_t {a b : ByteArray} (h : a = b) : (a.toList == b.toList) = true := by rw [h, beq_self_eq_true]
theorem toList_beq_f {a b : ByteArray} (h : a ≠ b) : (a.toList == b.toList) = false := by
  rw [beq_eq_false_iff_ne]
  intro e
  rw [Lib.toList_data, Lib.toList_data] at e
  exact h (ba_ext e)

set_option maxHeartbeats 2000000 in
set_option maxRecDepth 100000 in
theorem ref_Same (w : World) (A B : Option Addr) (c d : Nat) (xs ys : List Tok) (hx : kTok.C w A xs.length xs) (hy : kTok.C w B ys.length ys) :
    Calls Try.prog 21 #[.slice A xs.length c, .slice B ys.length d] w fun e w' => e = .returned (.bool (sameL xs ys)) ∧ Below w.heap.size w w' := by
  have hxm := Kd.C_max hx
  have hym := Kd.C_max hy
  obtain ⟨r, hr⟩ : ∃ r, sameL xs ys = r := ⟨_, rfl⟩
  rw [hr]
  have HR := Hid.mk' hr
  clear hr
  go_enter Try.func21, Try.ntmps21
  by_cases hl : xs.length = ys.length
  · have hl1 : ((xs.length : Int) != ys.length) = false := by rw [hl]; simp
    have HL := Hid.mk' hl
    clear hl
    go_wp2
    go_loopw [5] (fun i wr => ∃ k : Nat, i = .int .i64 k ∧ k ≤ xs.length ∧ Below w.heap.size w wr ∧ Hid (∀ j, j < k → (xs.getD j tok0).kt = (ys.getD j tok0).kt)) (fun i _ => xs.length - (intOf i).toNat)
    case atStart => exact ⟨0, rfl, by omega, Below.refl _ _, fun j hj => absurd hj (by omega)⟩
    case round =>
      obtain ⟨k, rfl, hk, hbl, hinv⟩ := hrel
      by_cases hlt : k < xs.length
      · obtain ⟨x, hxk⟩ : ∃ x, xs.getD k tok0 = x := ⟨_, rfl⟩
        obtain ⟨y, hyk⟩ : ∃ x, ys.getD k tok0 = x := ⟨_, rfl⟩
        have hlt2 : k < ys.length := by have := HL.out; omega
        obtain ⟨a, hA, x0, x1, x2, x3⟩ := kTok_at (Kd.C_below hx hbl) k hlt
        obtain ⟨b, hB, y0, y1, y2, y3⟩ := kTok_at (Kd.C_below hy hbl) k hlt2
        rw [hxk] at x0 x1 x2 x3
        rw [hyk] at y0 y1 y2 y3
        subst hA hB
        have HX := Hid.mk' hxk
        have HY := Hid.mk' hyk
        clear hxk hyk x2 x3 y2 y3
        have hlti : (k : Int) < xs.length := by omega
        have hlti2 : (k : Int) < ys.length := by omega
        by_cases hkd : x.kind = y.kind
        · have hkd1 : (x.kind != y.kind) = false := by rw [hkd]; simp
          have HKD := Hid.mk' hkd
          clear hkd
          by_cases htx : x.text = y.text
          · have htx1 := toList_beq_t htx
            have HTX := Hid.mk' htx
            clear htx
            go_wp2
            go_quiet (fail)
            go_wp2
            go_roundw
            case rel => exact ⟨k + 1, by go_num, by omega, pw_below_drewN hbl _, fun j hj => by
              rcases Nat.lt_or_ge j k with h | h
              · exact hinv.out j h
              · obtain rfl : j = k := by omega
                rw [HX.out, HY.out]
                exact Prod.ext HKD.out HTX.out⟩
            case measure => simp [intOf]; omega
          · have htx1 := toList_beq_f htx
            have HTX := Hid.mk' htx
            clear htx
            go_wp2
            go_quiet (fail)
            go_wp2
            go_ret
            have := sameL_ne k hlt hlt2 (by rw [HX.out, HY.out]; exact fun e => HTX.out (congrArg Prod.snd e))
            exact ⟨ret_boolE (by rw [← HR.out, this]), pw_below_drewN hbl _⟩
        · have hkd1 : (x.kind != y.kind) = true := by simpa using hkd
          have HKD := Hid.mk' hkd
          clear hkd
          go_wp2
          go_quiet (fail)
          go_wp2
          go_ret
          have := sameL_ne k hlt hlt2 (by rw [HX.out, HY.out]; exact fun e => HKD.out (congrArg Prod.fst e))
          exact ⟨ret_boolE (by rw [← HR.out, this]), pw_below_drewN hbl _⟩
      · go_wp2
        go_ret
        have := sameL_all HL.out (fun j hj => hinv.out j (by omega))
        exact ⟨ret_boolE (by rw [← HR.out, this]), hbl⟩
  · have hl1 : ((xs.length : Int) != ys.length) = true := by rw [bne_iff_ne]; omega
    go_wp2
    go_ret
    exact ⟨ret_boolE (by rw [← HR.out, sameL_len hl]), Below.refl _ _⟩
theorem ref_Same_is (w : World) (A B : Option Addr) (c d : Nat) (xs ys : List Tok) (hx : kTok.C w A xs.length xs) (hy : kTok.C w B ys.length ys) (r : Bool) (hr : sameL xs ys = r) :
    Calls Try.prog 21 #[.slice A xs.length c, .slice B ys.length d] w fun e w' => e = .returned (.bool r) ∧ Below w.heap.size w w' := by subst hr; exact ref_Same w A B c d xs ys hx hy

theorem sameL_true {xs ys : List Tok} (h : sameL xs ys = true) : xs.length = ys.length ∧ ∀ j, j < xs.length → (xs.getD j tok0).kt = (ys.getD j tok0).kt := by
  unfold sameL at h
  rw [decide_eq_true_eq] at h
  have hl := congrArg List.length h
  simp at hl
  refine ⟨hl, fun j hj => ?_⟩
  have := congrArg (fun l : List (Int × ByteArray) => l[j]?) h
  simpa only [getD_map _ _ hj, getD_map _ _ (show j < ys.length by omega), Option.some.injEq] using this
theorem list_ext_getD {xs ys : List Tok} (hl : xs.length = ys.length) (h : ∀ j, j < xs.length → xs.getD j tok0 = ys.getD j tok0) : xs = ys := by
  apply List.ext_getElem hl
  intro j h1 h2
  have := h j h1
  simpa [List.getD_eq_getElem?_getD, h1, h2] using this
theorem tok_ext {x y : Tok} (h : x.kt = y.kt) (h2 : x.at_ = y.at_) (h3 : x.end_ = y.end_) : x = y := by
  cases x; cases y
  have e1 := congrArg Prod.fst h
  have e2 := congrArg Prod.snd h
  simp only [Tok.kt] at e1 e2
  simp_all

set_option maxHeartbeats 2000000 in
set_option maxRecDepth 100000 in
theorem ref_Equal (w : World) (A B : Option Addr) (c d : Nat) (xs ys : List Tok) (hx : kTok.C w A xs.length xs) (hy : kTok.C w B ys.length ys) (r : Bool) (hr : decide (xs = ys) = r) :
    Calls Try.prog 16 #[.slice A xs.length c, .slice B ys.length d] w fun e w' => e = .returned (.bool r) ∧ Below w.heap.size w w' := by
  have hxm := Kd.C_max hx
  have hym := Kd.C_max hy
  have HR := Hid.mk' hr
  clear hr
  go_enter Try.func16, Try.ntmps16
  cases hsm : sameL xs ys
  · go_wp2_with (go_at_call 21; refine (ref_Same_is _ A B c d xs ys hx hy _ hsm).mono ?_; rintro e w1 ⟨rfl, hbl⟩)
    go_ret
    refine ⟨ret_boolE ?_, hbl⟩
    rw [← HR.out, decide_eq_false]
    rintro rfl
    rw [sameL_all rfl (fun _ _ => rfl)] at hsm
    exact absurd hsm (by decide)
  · go_wp2_with (go_at_call 21; refine (ref_Same_is _ A B c d xs ys hx hy _ hsm).mono ?_; rintro e w1 ⟨rfl, hb1⟩)
    have HL := Hid.mk' (sameL_true hsm)
    clear hsm
    go_loopw [5] (fun i wr => ∃ k : Nat, i = .int .i64 k ∧ k ≤ xs.length ∧ Below w.heap.size w wr ∧ Hid (∀ j, j < k → xs.getD j tok0 = ys.getD j tok0)) (fun i _ => xs.length - (intOf i).toNat)
    case atStart => exact ⟨0, rfl, by omega, hb1, fun j hj => absurd hj (by omega)⟩
    case round =>
      obtain ⟨k, rfl, hk, hbl, hinv⟩ := hrel
      by_cases hlt : k < xs.length
      · obtain ⟨x, hxk⟩ : ∃ x, xs.getD k tok0 = x := ⟨_, rfl⟩
        obtain ⟨y, hyk⟩ : ∃ x, ys.getD k tok0 = x := ⟨_, rfl⟩
        have hlt2 : k < ys.length := by have := HL.out.1; omega
        obtain ⟨a, hA, x0, x1, x2, x3⟩ := kTok_at (Kd.C_below hx hbl) k hlt
        obtain ⟨b, hB, y0, y1, y2, y3⟩ := kTok_at (Kd.C_below hy hbl) k hlt2
        rw [hxk] at x0 x1 x2 x3
        rw [hyk] at y0 y1 y2 y3
        subst hA hB
        have HX := Hid.mk' hxk
        have HY := Hid.mk' hyk
        clear hxk hyk x0 x1 y0 y1
        have hlti : (k : Int) < xs.length := by omega
        have hlti2 : (k : Int) < ys.length := by omega
        by_cases hkd : x.at_ = y.at_
        · have hkd1 : (x.at_ != y.at_) = false := by rw [hkd]; simp
          have HKD := Hid.mk' hkd
          clear hkd
          by_cases htx : x.end_ = y.end_
          · have htx1 : (x.end_ != y.end_) = false := by rw [htx]; simp
            have HTX := Hid.mk' htx
            clear htx
            go_wp2
            go_quiet (fail)
            go_wp2
            go_roundw
            case rel => exact ⟨k + 1, by go_num, by omega, pw_below_drewN hbl _, fun j hj => by
              rcases Nat.lt_or_ge j k with h | h
              · exact hinv.out j h
              · obtain rfl : j = k := by omega
                have e := HL.out.2 j hlt
                rw [HX.out, HY.out] at e
                rw [HX.out, HY.out]
                exact tok_ext e HKD.out HTX.out⟩
            case measure => simp [intOf]; omega
          · have htx1 : (x.end_ != y.end_) = true := by simpa using htx
            have HTX := Hid.mk' htx
            clear htx
            go_wp2
            go_quiet (fail)
            go_wp2
            go_ret
            refine ⟨ret_boolE ?_, pw_below_drewN hbl _⟩
            rw [← HR.out, decide_eq_false]
            rintro rfl
            exact HTX.out (congrArg Tok.end_ (HX.out.symm.trans HY.out))
        · have hkd1 : (x.at_ != y.at_) = true := by simpa using hkd
          have HKD := Hid.mk' hkd
          clear hkd
          go_wp2
          go_quiet (fail)
          go_wp2
          go_ret
          refine ⟨ret_boolE ?_, pw_below_drewN hbl _⟩
          rw [← HR.out, decide_eq_false]
          rintro rfl
          exact HKD.out (congrArg Tok.at_ (HX.out.symm.trans HY.out))
      · go_wp2
        go_ret
        refine ⟨ret_boolE ?_, hbl⟩
        rw [← HR.out, decide_eq_true]
        exact list_ext_getD HL.out.1 (fun j hj => hinv.out j (by omega))
end Go.Proofs.Ytlnoadnejefmoaa
