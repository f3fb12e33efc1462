/- The evaluator is sound (second part). -/
import Derived.Test.YtmofhelddcnecaaGreatDoorB1
import Derived.Laws.BytesString
import Derived.Recover
set_option linter.unusedVariables false
set_option linter.unusedSimpArgs false
namespace Go.Ev
open PV
/-- A cell of a box loses its room. -/
theorem box_uncell {γ : Gh} {w : World} {t : Tag} {ct : Nat → Tag} {cells : List PV} {b : Nat} (h : BoxAt γ w t ct cells b) (hct : ∀ j, ct j ≠ t) (hinj : ∀ i j, ct i = ct j → i = j) {j : Nat} {rows : List (List PV)}
    (hj : cells.getD j .undef = .list true rows) :
    ∃ (B : Option Nat) (v : Value), (∀ b, B = some b → γ.G b = some (ct j) ∧ b < w.heap.size) ∧ w.cell? ⟨b, j, none⟩ = some v ∧ BoxAt (mv γ B none) w t ct (splice cells j [.list false rows]) b ∧ ∀ t', OwnAt (mv γ B t') w t' rows v := by
  have hlt : j < cells.length := by
    by_cases hlt : j < cells.length
    · exact hlt
    · simp [List.getD_eq_getElem?_getD, List.getElem?_eq_none (Nat.le_of_not_lt hlt)] at hj
  obtain ⟨k1, k2, arr, el, k3, k4, k5⟩ := h
  have hc := k5 j hlt
  rw [hj] at hc
  have hown : OwnAt γ w (some (ct j)) rows (arr.getD j Go.undef) := by
    rcases hc with ⟨r, e, hc⟩ | hc
    · injection e with _ e; subst e; exact hc
    · exact absurd (Rep.rows hc).1 (by simp)
  obtain ⟨B, h1, h2⟩ := hown.block
  refine ⟨B, arr.getD j Go.undef, h1, ?_, ⟨?_, k2, arr, el, k3, ?_, ?_⟩, h2⟩
  · have : j < arr.size := by omega
    simp [World.cell?, k3, this, Array.getD_eq_getD_getElem?]
  · simp only [mv]
    rw [if_neg (fun e => hct j (by have := (h1 b e).1; rw [k1] at this; injection this with this; exact this.symm))]
    exact k1
  · rw [splice_length _ _ _ (by simp; omega), k4]
  · intro i hi
    rw [splice_length _ _ _ (by simp; omega)] at hi
    rw [splice_getD _ _ _ _ (by simp; omega)]
    by_cases e : i = j
    · subst e
      rw [if_pos (by simp)]
      right
      simp only [Nat.sub_self]
      exact (h2 none).rep
    · rw [if_neg (by simp; omega)]
      exact CellAt.keep (γ := γ) (γ' := mv γ B none) (.refl _) (.refl _) (same_mv fun b' e' => by rw [(h1 b' e').1]; intro e2; injection e2 with e2; exact e (hinj _ _ e2).symm) (k5 i hi)
theorem take_box {γ : Gh} {st : St} {a : Act} {w : World} (h : Rel γ st a w) {s j : Nat} {cs : List PV} {rows : List (List PV)} (hs : st.sl.getD s .undef = .box cs) (hj : cs.getD j .undef = .list true rows) :
    ∃ (b : Nat) (B : Option Nat) (v : Value), a.tmps.getD s Go.undef = .pointer (some ⟨b, 0, none⟩) ∧ (∀ b, B = some b → (∃ t, γ.G b = some t ∧ t ≠ .out ∧ boxTag true t = false) ∧ b < w.heap.size) ∧ γ.G b = some (.bx s) ∧ w.cell? ⟨b, j, none⟩ = some v ∧
      Rel (mv γ B none) ⟨st.sl.set s (.box (splice cs j [.list false rows])), st.sg⟩ a w ∧ ∀ t', OwnAt (mv γ B t') w t' rows v := by
  have hlt := getD_lt hs (by simp)
  have hsl := h.slots s hlt
  rw [hs] at hsl
  obtain ⟨b, hb, hbox⟩ := hsl
  obtain ⟨B, v, h1, h2, h3, h4⟩ := box_uncell hbox (fun j => by simp) (fun i j e => by injection e) hj
  refine ⟨b, B, v, hb, fun b e => ⟨⟨_, (h1 b e).1, by simp, rfl⟩, (h1 b e).2⟩, hbox.1, h2, ?_, h4⟩
  have hS : ∀ t', t' ≠ .bc s j → Same γ w (mv γ B none) w t' := fun t' hne => same_mv fun b' e => by rw [(h1 b' e).1]; intro e'; injection e' with e'; exact hne e'.symm
  have hO := objs_mv h.toObjs (B := B) (t' := none) (fun b' e => by rw [(h1 b' e).1]; exact ⟨by simp, by simp, (h1 b' e).2⟩)
  have := Rel.set (γ' := mv γ B none) (w' := w) (sg' := st.sg) h (.refl _) (.refl _) hO s (.box (splice cs j [.list false rows])) (a.tmps.getD s Go.undef)
    (fun s' hne => ⟨hS _ (by simp), hS _ (by simp), fun _ => hS _ (fun e => hne (by injection e))⟩) (by
      rintro s' ⟨_, _, _⟩ cells hc
      rw [getD_set] at hc
      rw [getD_setA]
      by_cases e : s' = s
      · subst e
        exact ⟨⟨cs, hs⟩, by split <;> rfl⟩
      · rw [if_neg (by simp [e])] at hc
        rw [if_neg (by simp [e])]
        exact ⟨⟨_, hc⟩, rfl⟩) (fun _ => ⟨b, hb, h3⟩)
  rw [act_same] at this
  exact this
theorem take_obj {γ : Gh} {st : St} {a : Act} {w : World} (h : Rel γ st a w) {i j b0 : Nat} {cs : List PV} {rows : List (List PV)} (hs : st.sg[i]? = some cs) (hb0 : γ.ob[i]? = some b0) (hj : cs.getD j .undef = .list true rows) :
    ∃ (B : Option Nat) (v : Value), (∀ b, B = some b → (∃ t, γ.G b = some t ∧ t ≠ .out ∧ boxTag true t = false) ∧ b < w.heap.size) ∧ γ.G b0 = some (.ob i) ∧ w.cell? ⟨b0, j, none⟩ = some v ∧
      Rel (mv γ B none) ⟨st.sl, st.sg.set i (splice cs j [.list false rows])⟩ a w ∧ ∀ t', OwnAt (mv γ B t') w t' rows v := by
  have hlt : i < st.sg.length := (List.getElem?_eq_some_iff.mp hs).1
  have hbox := h.objs i hlt
  rw [show st.sg.getD i [] = cs by simp [List.getD_eq_getElem?_getD, hs], show γ.ob.getD i 0 = b0 by simp [List.getD_eq_getElem?_getD, hb0]] at hbox
  obtain ⟨B, v, h1, h2, h3, h4⟩ := box_uncell hbox (fun j => by simp) (fun i j e => by injection e) hj
  refine ⟨B, v, fun b e => ⟨⟨_, (h1 b e).1, by simp, rfl⟩, (h1 b e).2⟩, hbox.1, h2, ?_, h4⟩
  have hS : ∀ t', t' ≠ .oc i j → Same γ w (mv γ B none) w t' := fun t' hne => same_mv fun b' e => by rw [(h1 b' e).1]; intro e'; injection e' with e'; exact hne e'.symm
  refine ⟨⟨h.imm, fun b' t' hb => ?_, by simp [h.len, mv], fun k hk => ?_⟩, h.size, h.defers, fun s hs' => ?_⟩
  · simp only [mv] at hb
    split at hb
    · cases hb
    · exact h.inH b' t' hb
  · simp only [List.length_set] at hk
    by_cases e : k = i
    · subst e
      rw [show (st.sg.set k (splice cs j [.list false rows])).getD k [] = splice cs j [.list false rows] by simp [List.getD_eq_getElem?_getD, hlt], show (mv γ B none).ob.getD k 0 = b0 by simp [mv, List.getD_eq_getElem?_getD, hb0]]
      exact h3
    · rw [show (st.sg.set i (splice cs j [.list false rows])).getD k [] = st.sg.getD k [] by rw [getD_set, if_neg (by simp [e])]]
      exact BoxAt.keep (γ := γ) (γ' := mv γ B none) (.refl _) (.refl _) (hS _ (by simp)) (fun _ => hS _ (fun e' => e (by injection e'))) (h.objs k hk)
  · exact SlotAt.keep (γ := γ) (γ' := mv γ B none) (.refl _) (.refl _) ⟨hS _ (by simp), hS _ (by simp), fun _ => hS _ (by simp)⟩ (fun s' _ _ => .refl _ _ _) (h.slots s hs')
theorem held_cell {m : Bool} {γ : Gh} {w w' : World} {b j : Nat} {t : Tag} {v : Value} (hw : Held m γ w w') (hb : γ.G b = some t) (ht : boxTag m t = true) (h : w.cell? ⟨b, j, none⟩ = some v) : w'.cell? ⟨b, j, none⟩ = some v := by
  simp only [World.cell?, hw.box b t hb ht] at h ⊢
  exact h
/-- A load that takes the room along. -/
theorem take_sound {P : Program} {γ : Gh} {st : St} {a : Act} {w : World} (h : Rel γ st a w) {t : TypeId} {x : Operand} {d : Option Tmp} {K : St → Prop} (hz : szT P t = some 1) (ha : aggT P t = some false)
    (hk : takeW st (Ev.raw st.sl x) x fun v st' => K ⟨setD st'.sl d v, st'.sg⟩) :
    ∃ γ' st' v, K st' ∧ (∀ w', Held (isPtrB (Ev.raw st.sl x)) γ w w' → (Instr.loadAt t (a.eval x)).run P w' = .ok v w') ∧ Rel γ' st' (a.put d v) w ∧ Ext γ w γ' w ∧ Mild true γ w γ' w := by
  have hE : ∀ (B : Option Nat) (t' : Option Tag), (∀ b, B = some b → (∃ t, γ.G b = some t ∧ t ≠ .out ∧ boxTag true t = false) ∧ b < w.heap.size) → Ext γ w (mv γ B t') w ∧ Mild true γ w (mv γ B t') w := fun B t' k2 =>
    ⟨ext_mv fun b e => let ⟨t, h1, h2, _⟩ := (k2 b e).1; ⟨t, h1, h2⟩, mild_mv fun b e t hb => by obtain ⟨t2, h1, _, h3⟩ := (k2 b e).1; rw [hb] at h1; injection h1 with h1; subst h1; exact h3⟩
  unfold takeW at hk
  split at hk
  · rename_i cs off hp
    have hp' : place st.sl (osg (isPtrB (Ev.raw st.sl x)) st) (Ev.raw st.sl x) = some (cs, off) := by
      cases hr : Ev.raw st.sl x <;> rw [hr] at hp <;> simp only [isPtrB, osg, bcond] <;> first | exact hp | (simp only [place] at hp ⊢; exact hp)
    have hcell := place_cells h x hp'
    have hx := h.rawS x
    split at hk
    · rename_i rows hr
      generalize hraw : Ev.raw st.sl x = p at *
      unfold setW objSet at hk
      split at hk
      · rename_i cs'
        cases x with
        | tmp s =>
          obtain ⟨_, hk⟩ := chk_iff.mp hk
          simp only [place, Option.some.injEq, Prod.mk.injEq] at hp
          obtain ⟨rfl, rfl⟩ := hp
          simp only [Ev.raw] at hraw
          obtain ⟨b, B, v, k1, k2, kb, k3, k4, k5⟩ := take_box h hraw hr
          obtain ⟨t', k6⟩ := Rel.setFree k4 (fun b e => (k2 b e).2) (d := d) k5
          refine ⟨_, _, v, hk, fun w' hw' => ?_, k6, hE B t' k2⟩
          have e : a.eval (.tmp s) = .pointer (some ⟨b, 0, none⟩) := k1
          simp [Instr.loadAt, Instr.sureAddr, e, loadVar, run_aggT w' ha, held_cell hw' kb rfl k3]
        | _ => exact hk.elim
      · rename_i s off'
        split at hk
        · rename_i cs' hc
          obtain ⟨_, hk⟩ := chk_iff.mp hk
          simp only [place, hc, Option.some.injEq, Prod.mk.injEq] at hp
          obtain ⟨rfl, rfl⟩ := hp
          obtain ⟨b, B, v, k1, k2, kb, k3, k4, k5⟩ := take_box h hc hr
          obtain ⟨t', k6⟩ := Rel.setFree k4 (fun b e => (k2 b e).2) (d := d) k5
          obtain ⟨b', k7, k8⟩ := hx ⟨_, hc⟩
          rw [k1] at k7; injection k7 with k7; injection k7 with k7; injection k7 with k7; subst k7
          refine ⟨_, _, v, hk, fun w' hw' => ?_, k6, hE B t' k2⟩
          simp [Instr.loadAt, Instr.sureAddr, k8, loadVar, run_aggT w' ha, held_cell hw' kb rfl k3]
        · exact hk.elim
      · rename_i i off'
        split at hk
        · rename_i cs' hc
          obtain ⟨_, hk⟩ := chk_iff.mp hk
          simp only [place, hc, Option.some.injEq, Prod.mk.injEq] at hp
          obtain ⟨rfl, rfl⟩ := hp
          generalize hva : a.eval x = va at *
          cases hx with
          | ptr _ _ b hb =>
            obtain ⟨B, v, k2, kb, k3, k4, k5⟩ := take_obj h hc hb hr
            obtain ⟨t', k6⟩ := Rel.setFree k4 (fun b e => (k2 b e).2) (d := d) k5
            refine ⟨_, _, v, hk, fun w' hw' => ?_, k6, hE B t' k2⟩
            simp [Instr.loadAt, Instr.sureAddr, loadVar, run_aggT w' ha, held_cell hw' kb rfl k3]
        · exact hk.elim
      · exact hk.elim
    · rename_i v hv
      obtain ⟨h1, hk⟩ := chk_iff.mp hk
      have h1 := of_decide_eq_true h1
      obtain ⟨b, o, k1, k2⟩ := hcell
      obtain ⟨x', k3', k4⟩ := k2 off (by omega)
      have k3 := k3' w (h.toObjs.held _)
      refine ⟨γ, _, x', hk, fun w' hw' => ?_, h.setQ d _ _ k4.isQuiet (fun _ => k4.slot), .refl _ _, .refl _ _ _⟩
      simp [Instr.loadAt, Instr.sureAddr, k1, loadVar, run_aggT w' ha, k3' w' hw']
  · exact hk.elim
end Go.Ev
namespace Go.Ev
open PV
def Flat (γ : Gh) (k : Nat) (rows : List (List PV)) (vals : List Value) : Prop :=
  vals.length = rows.length * k ∧ (∀ r ∈ rows, r.length = k) ∧ (∀ v ∈ vals, v.oneCell' = true) ∧
  ∀ i j, i < rows.length → j < k → Rep γ.I γ.ob ((rows.getD i []).getD j .undef) (vals.getD (i * k + j) Go.undef)
theorem idx_lt {i j k n : Nat} (hi : i < n) (hj : j < k) : i * k + j < n * k := by
  have : (i + 1) * k ≤ n * k := Nat.mul_le_mul_right k hi
  rw [Nat.add_mul] at this; omega
theorem idx_split {m k n : Nat} (hk : 0 < k) (h : m < n * k) : m / k < n ∧ m % k < k ∧ m / k * k + m % k = m :=
  ⟨(Nat.div_lt_iff_lt_mul hk).2 h, Nat.mod_lt _ hk, by rw [Nat.mul_comm]; exact Nat.div_add_mod m k⟩
theorem flat_rep {P : Program} {γ : Gh} {w : World} {k : Nat} {rows : List (List PV)} {v : Value} (imm : ∀ b o v, γ.I b o = some v → w.cell? ⟨b, o, none⟩ = some v) (h : Rep γ.I γ.ob (.list false rows) v) (hk : rowsOk k rows = true) (h0 : 0 < k) :
    ∃ vals A c, Flat γ k rows vals ∧ (∀ w' : World, w'.heap = w.heap → (Builtin.firstCells k rows.length v).run P w' = .ok vals.toArray w') ∧ v = .slice A rows.length c := by
  rcases (Rep.rows h).2 with ⟨rfl, rfl⟩ | ⟨A, c, k', rfl, hs, hc, hr⟩
  · exact ⟨[], none, 0, ⟨by simp, by simp, by simp, by simp⟩, fun _ _ => rfl, rfl⟩
  · have hr := hr.cast hk
    let f : Nat → Value := fun m => (w.cell? ⟨A.block, A.off + m, none⟩).getD Go.undef
    have hf : ∀ i j, i < rows.length → j < k → w.cell? ⟨A.block, A.off + (i * k + j), none⟩ = some (f (i * k + j)) ∧ (f (i * k + j)).oneCell' = true ∧ Rep γ.I γ.ob ((rows.getD i []).getD j .undef) (f (i * k + j)) := by
      intro i j hi hj
      obtain ⟨v, h1, h2, h3⟩ := hr.2 i j hi hj
      have := imm _ _ _ h1
      simp only [f, this, Option.getD_some]
      exact ⟨trivial, h2, h3⟩
    have hg : ∀ m, m < rows.length * k → w.cell? ⟨A.block, A.off + m, none⟩ = some (f m) ∧ (f m).oneCell' = true := by
      intro m hm
      obtain ⟨h1, h2, h3⟩ := idx_split h0 hm
      have := hf _ _ h1 h2
      rw [h3] at this
      exact ⟨this.1, this.2.1⟩
    refine ⟨(List.range (rows.length * k)).map f, some A, c, ⟨by simp, hr.1, ?_, ?_⟩, ?_, rfl⟩
    · intro v hv
      simp only [List.mem_map, List.mem_range] at hv
      obtain ⟨m, hm, rfl⟩ := hv
      exact (hg m hm).2
    · intro i j hi hj
      have : ((List.range (rows.length * k)).map f).getD (i * k + j) Go.undef = f (i * k + j) := by
        simp [List.getD_eq_getElem?_getD, idx_lt hi hj]
      rw [this]
      exact (hf i j hi hj).2.2
    · intro w' e
      simp only [Builtin.firstCells]
      exact run_loadCells w' A _ f (fun j hj => by rw [addr_add A j (hs (by rintro rfl; simp at hj))]; have := (hg j hj).1; simp only [World.cell?, e] at this ⊢; exact this)
theorem Flat.append {γ : Gh} {k : Nat} {r1 r2 : List (List PV)} {v1 v2 : List Value} (h1 : Flat γ k r1 v1) (h2 : Flat γ k r2 v2) : Flat γ k (r1 ++ r2) (v1 ++ v2) := by
  obtain ⟨a1, a2, a3, a4⟩ := h1
  obtain ⟨b1, b2, b3, b4⟩ := h2
  refine ⟨by simp [a1, b1, Nat.add_mul], ?_, ?_, ?_⟩
  · intro r hr
    rcases List.mem_append.1 hr with hr | hr
    · exact a2 r hr
    · exact b2 r hr
  · intro v hv
    rcases List.mem_append.1 hv with hv | hv
    · exact a3 v hv
    · exact b3 v hv
  · intro i j hi hj
    simp only [List.length_append] at hi
    by_cases h : i < r1.length
    · have := a4 i j h hj
      have hlt := idx_lt h hj
      rw [show (r1 ++ r2).getD i [] = r1.getD i [] by simp [List.getD_eq_getElem?_getD, List.getElem?_append_left h],
        show (v1 ++ v2).getD (i * k + j) Go.undef = v1.getD (i * k + j) Go.undef by simp [List.getD_eq_getElem?_getD, List.getElem?_append_left (show i * k + j < v1.length by omega)]]
      exact this
    · have hi' : i - r1.length < r2.length := by omega
      have := b4 (i - r1.length) j hi' hj
      have e : i * k + j = v1.length + ((i - r1.length) * k + j) := by
        rw [a1, ← Nat.add_assoc, ← Nat.add_mul]; congr 2; omega
      rw [show (r1 ++ r2).getD i [] = r2.getD (i - r1.length) [] by simp [List.getD_eq_getElem?_getD, List.getElem?_append_right (show r1.length ≤ i by omega)],
        show (v1 ++ v2).getD (i * k + j) Go.undef = v2.getD ((i - r1.length) * k + j) Go.undef by
          rw [e]; simp only [List.getD_eq_getElem?_getD]; rw [List.getElem?_append_right (by omega), Nat.add_sub_cancel_left]]
      exact this
theorem Flat.mono {γ γ' : Gh} {k : Nat} {r : List (List PV)} {v : List Value} (hI : LeI γ.I γ'.I) (ho : LeO γ.ob γ'.ob) (h : Flat γ k r v) : Flat γ' k r v :=
  ⟨h.1, h.2.1, h.2.2.1, fun i j hi hj => (h.2.2.2 i j hi hj).mono hI ho⟩
/-- A new row of cells, and the slice of its head. -/
theorem own_new {γ : Gh} {st : St} {a : Act} {w : World} (h : Rel γ st a w) {k c : Nat} {rows : List (List PV)} {vals : List Value} {arr : Array Value} (el : TypeId) (hF : Flat γ k rows vals)
    (hv : ∀ o, o < rows.length * k → arr.getD o Go.undef = vals.getD o Go.undef) (hc : rows.length ≤ c) (hs : c * k ≤ arr.size) (h0 : rows = [] → c = 0) :
    ∃ γ1, Rel (mv γ1 (some w.heap.size) none) st a (pushW w (.cells arr el (0, 0))) ∧ (∀ t, Ext γ w (mv γ1 (some w.heap.size) t) (pushW w (.cells arr el (0, 0)))) ∧ (∀ t, Mild true γ w (mv γ1 (some w.heap.size) t) (pushW w (.cells arr el (0, 0)))) ∧
      ∀ t, OwnAt (mv γ1 (some w.heap.size) t) (pushW w (.cells arr el (0, 0))) t rows (.slice (some ⟨w.heap.size, 0, none⟩) rows.length c) := by
  let I' : Nat → Nat → Option Value := fun b o => if b = w.heap.size then (if o < rows.length * k then some (vals.getD o Go.undef) else none) else γ.I b o
  have hfr := h.toObjs.fresh
  have hI : LeI γ.I I' := fun b o v hv' => by
    have : b ≠ w.heap.size := by rintro rfl; rw [hfr.2] at hv'; cases hv'
    simp only [I', if_neg this]; exact hv'
  have h1 := h.push (.cells arr el (0, 0)) none
  have hle : rows.length * k ≤ c * k := Nat.mul_le_mul_right k hc
  have h2 := h1.extI (b := w.heap.size) (I' := I') (by simp [mv]) hI (fun b o hb => by simp only [I', if_neg hb]; rfl) (fun o v hv' => by
    simp only [I', if_true] at hv'
    split at hv'
    · rename_i ho
      injection hv' with hv'
      have h3 : o < arr.size := by omega
      have h4 := hv o ho
      simp only [World.cell?, push_new]
      simp only [Array.getD_eq_getD_getElem?, Array.getElem?_eq_getElem h3, Option.getD_some] at h4
      rw [Array.getElem?_eq_getElem h3, h4, hv']; rfl
    · cases hv')
  refine ⟨{ γ with I := I' }, h2, fun t => ⟨by simp [pushW], hI, .refl _, rfl, ⟨rfl, rfl, rfl⟩, fun b hb hg => ?_⟩, fun t => ⟨hI, (mild_push h.toObjs (.cells arr el (0, 0)) t).box⟩, fun t => ?_⟩
  · have : b ≠ w.heap.size := by omega
    refine ⟨push_heap w _ b hb, ?_, fun o => ?_⟩
    · simp only [mv]; rw [if_neg (fun e => this (by injection e with e; exact e.symm))]
    · simp only [mv, I', if_neg this]
  · by_cases hr : rows = []
    · exact .inl ⟨hr, some ⟨w.heap.size, 0, none⟩, by rw [h0 hr, hr]; rfl, by simp⟩
    · refine .inr ⟨hr, ⟨w.heap.size, 0, none⟩, c, k, arr, el, rfl, rfl, hc, ⟨hF.2.1, fun i j hi hj => ?_⟩, by simp [mv], push_new _ _, by simpa using hs, fun o ho => ?_⟩
      · have hlt := idx_lt hi hj
        refine ⟨vals.getD (i * k + j) Go.undef, by simp [mv, I', hlt], ?_, (hF.2.2.2 i j hi hj).mono hI (.refl _)⟩
        have : i * k + j < vals.length := by rw [hF.1]; exact hlt
        refine hF.2.2.1 _ ?_
        simp only [List.getD_eq_getElem?_getD, List.getElem?_eq_getElem this, Option.getD_some]
        exact List.getElem_mem this
      · simp only [mv, I', if_true, Nat.zero_add]
        rw [if_neg (by omega)]
/-- A block that nobody holds is written where nothing is known. -/
theorem Rel.freeRow {γ : Gh} {st : St} {a : Act} {w : World} (h : Rel γ st a w) {b : Nat} (hb : γ.G b = none) {cur arr : Array Value} {el : TypeId} (hh : w.heap[b]? = some (.cells cur el (0, 0)))
    (hc : ∀ o v, γ.I b o = some v → arr[o]? = cur[o]?) : Rel γ st a (w.setRow b arr) := by
  have hS : ∀ t, Same γ w γ (w.setRow b arr) t := fun t b' h' => ⟨setRow_other w b b' arr (by rintro rfl; rw [hb] at h'; cases h'), h', fun _ => rfl⟩
  refine ⟨Objs.keep (γ := γ) (γ' := γ) (w := w) (w' := w.setRow b arr) (.refl _) rfl ⟨fun _ => hS _, fun _ _ => hS _⟩ (fun b' o v hv => ?_) (fun b' t h' => by simp; exact h.inH b' t h') h.toObjs, h.size, h.defers, fun s hs => ?_⟩
  · have h1 := h.imm _ _ _ hv
    by_cases e : b' = b
    · subst e
      simp only [World.cell?, setRow_heap w b' cur arr el (0, 0) hh, hh] at h1 ⊢
      simp only [hc o v hv]
      exact h1
    · simp only [World.cell?, setRow_other w b b' arr e] at h1 ⊢
      exact h1
  · exact SlotAt.keep (γ := γ) (γ' := γ) (w := w) (w' := w.setRow b arr) (.refl _) (.refl _) ⟨hS _, hS _, fun _ => hS _⟩ (fun s' _ _ => .refl _ _ _) (h.slots s hs)
/-- A slice grows in its own room. -/
theorem own_grow {P : Program} {γ : Gh} {st : St} {a : Act} {w : World} {A : Addr} {c k : Nat} {arr : Array Value} {el : TypeId} {rows r2 : List (List PV)} {v2 : List Value}
    (hB : ∃ t, γ.G A.block = some t ∧ t ≠ .out) (h : Rel (mv γ (some A.block) none) st a w) (hs : A.spot = none) (hR : RowsAt γ A.block A.off k rows)
    (hh : w.heap[A.block]? = some (.cells arr el (0, 0))) (hsz : A.off + c * k ≤ arr.size) (hI : ∀ o, rows.length * k ≤ o → γ.I A.block (A.off + o) = none) (hF : Flat γ k r2 v2) (hc : rows.length + r2.length ≤ c) (hne : rows ≠ []) :
    ∃ γ1 w', (storeCells (A.add (rows.length * k)) v2).run P w = .ok () w' ∧ Rel (mv γ1 (some A.block) none) st a w' ∧ (∀ t, Ext γ w (mv γ1 (some A.block) t) w') ∧ (A.block < w'.heap.size) ∧
      ∀ t, OwnAt (mv γ1 (some A.block) t) w' t (rows ++ r2) (.slice (some A) (rows.length + r2.length) c) := by
  have hle : (rows.length + r2.length) * k ≤ c * k := Nat.mul_le_mul_right k hc
  have hlen : (rows.length + r2.length) * k = rows.length * k + v2.length := by rw [Nat.add_mul, hF.1]
  have hfit : A.off + rows.length * k + v2.length ≤ arr.size := by omega
  let off := A.off + rows.length * k
  let I' : Nat → Nat → Option Value := fun b o => if b = A.block ∧ off ≤ o ∧ o < off + v2.length then some (v2.getD (o - off) Go.undef) else γ.I b o
  have hI0 : ∀ o, off ≤ o → γ.I A.block o = none := fun o ho => by
    have := hI (o - A.off) (by simp only [off] at ho; omega)
    rwa [show A.off + (o - A.off) = o by simp only [off] at ho; omega] at this
  have hleI : LeI γ.I I' := fun b o v hv => by
    simp only [I']
    rw [if_neg]
    · exact hv
    · rintro ⟨rfl, h1, h2⟩
      rw [hI0 o h1] at hv; cases hv
  have hrun : (storeCells (A.add (rows.length * k)) v2).run P w = .ok () (w.setRow A.block (rowOf arr off v2)) := by
    rw [addr_add A _ hs]
    have := run_storeCells_at P A.block off el v2 0 arr w hh (by simpa using hfit) hF.2.2.1
    simpa [rowOf, off] using this
  have h1 := h.freeRow (b := A.block) (arr := rowOf arr off v2) (by simp [mv]) hh (fun o v hv => by
    have ho : o < off := by
      by_cases ho : o < off
      · exact ho
      · have := hI0 o (by omega)
        simp only [mv] at hv
        rw [this] at hv; cases hv
    simp only [rowOf, List.getElem?_toArray, List.append_assoc]
    rw [List.getElem?_append_left (by simp; omega), List.getElem?_take, if_pos ho]
    simp)
  have hsz' : (rowOf arr off v2).size = arr.size := rowOf_size _ _ _ hfit
  have h2 := h1.extI (b := A.block) (I' := I') (by simp [mv]) hleI (fun b o hb => by simp only [I']; rw [if_neg (fun e => hb e.1)]; rfl) (fun o v hv => by
    simp only [I'] at hv
    split at hv
    · rename_i ho
      injection hv with hv
      have h3 : o < (rowOf arr off v2).size := by rw [hsz']; simp only [off] at ho; omega
      have h4 := rowOf_getD arr off v2 hfit o
      rw [if_pos ⟨ho.2.1, ho.2.2⟩, hv] at h4
      simp only [World.cell?, setRow_heap w _ arr _ el (0, 0) hh]
      simp only [Array.getD_eq_getD_getElem?, Array.getElem?_eq_getElem h3, Option.getD_some] at h4
      rw [Array.getElem?_eq_getElem h3, h4]; rfl
    · exact h1.imm _ _ _ hv)
  refine ⟨{ γ with I := I' }, _, hrun, h2, fun t => ⟨by simp, hleI, .refl _, rfl, ⟨rfl, rfl, rfl⟩, fun b hb hg => ?_⟩, by simp; exact (Array.getElem?_eq_some_iff.1 hh).1, fun t => ?_⟩
  · have : b ≠ A.block := by
      rintro rfl
      obtain ⟨t', e1, e2⟩ := hB
      rw [e1] at hg
      simp at hg
      exact e2 hg
    refine ⟨setRow_other w _ b _ this, ?_, fun o => ?_⟩
    · simp only [mv]; rw [if_neg (fun e => this (by injection e with e; exact e.symm))]
    · simp only [mv, I']; rw [if_neg (fun e => this e.1)]
  · refine .inr ⟨by simp [hne], A, c, k, rowOf arr off v2, el, by simp, hs, by simp; exact hc, ⟨?_, fun i j hi hj => ?_⟩, by simp [mv], setRow_heap w _ arr _ el (0, 0) hh, by rw [hsz']; exact hsz, fun o ho => ?_⟩
    · intro r hr
      rcases List.mem_append.1 hr with hr | hr
      · exact hR.1 r hr
      · exact hF.2.1 r hr
    · simp only [List.length_append] at hi
      by_cases hlt : i < rows.length
      · obtain ⟨v, e1, e2, e3⟩ := hR.2 i j hlt hj
        refine ⟨v, hleI _ _ _ e1, e2, ?_⟩
        rw [show (rows ++ r2).getD i [] = rows.getD i [] by simp [List.getD_eq_getElem?_getD, List.getElem?_append_left hlt]]
        exact e3.mono hleI (.refl _)
      · have hi' : i - rows.length < r2.length := by omega
        have hlt2 := idx_lt hi' hj
        have e : A.off + (i * k + j) = off + ((i - rows.length) * k + j) := by
          simp only [off]
          have : i * k = rows.length * k + (i - rows.length) * k := by rw [← Nat.add_mul]; congr 1; omega
          omega
        have hlt3 : (i - rows.length) * k + j < v2.length := by rw [hF.1]; exact hlt2
        refine ⟨v2.getD ((i - rows.length) * k + j) Go.undef, ?_, ?_, ?_⟩
        · simp only [mv, I']
          rw [if_pos ⟨trivial, by omega, by omega⟩, e, Nat.add_sub_cancel_left]
        · refine hF.2.2.1 _ ?_
          simp only [List.getD_eq_getElem?_getD, List.getElem?_eq_getElem hlt3, Option.getD_some]
          exact List.getElem_mem hlt3
        · rw [show (rows ++ r2).getD i [] = r2.getD (i - rows.length) [] by simp [List.getD_eq_getElem?_getD, List.getElem?_append_right (show rows.length ≤ i by omega)]]
          exact (hF.2.2.2 _ j hi' hj).mono hleI (.refl _)
    · simp only [List.length_append] at ho
      simp only [mv, I']
      rw [if_neg (by simp only [off]; omega)]
      exact hI o (by have : rows.length * k ≤ (rows.length + r2.length) * k := Nat.mul_le_mul_right k (by omega); omega)
end Go.Ev
namespace Go.Ev
open PV
theorem grow_le (n : Nat) : ∀ (r c : Nat), Builtin.growBy n r c ≤ max c (n + (n + 768) / 4)
  | 0, c => by simp [Builtin.growBy]; omega
  | r + 1, c => by
    simp only [Builtin.growBy]
    split
    · omega
    · have := grow_le n r (c + (c + 768) / 4)
      omega
theorem next_le (need c : Nat) (h : c < need) : Builtin.nextslicecap need c ≤ 2 * need + 1024 := by
  unfold Builtin.nextslicecap
  split
  · omega
  · split
    · omega
    · have := grow_le need 4 c
      omega
theorem Rel.world {γ : Gh} {st : St} {a : Act} {w w' : World} (h : Rel γ st a w) (e : w'.heap = w.heap) : Rel γ st a w' := by
  have hS : ∀ t, Same γ w γ w' t := fun t b h' => ⟨by rw [e], h', fun _ => rfl⟩
  refine ⟨Objs.keep (γ := γ) (γ' := γ) (w := w) (w' := w') (.refl _) rfl ⟨fun _ => hS _, fun _ _ => hS _⟩ (fun b' o v hv => ?_) (fun b' t h' => by rw [e]; exact h.inH b' t h') h.toObjs, h.size, h.defers, fun s hs => ?_⟩
  · have := h.imm _ _ _ hv
    simp only [World.cell?, e] at this ⊢
    exact this
  · exact SlotAt.keep (γ := γ) (γ' := γ) (w := w) (w' := w') (.refl _) (.refl _) ⟨hS _, hS _, fun _ => hS _⟩ (fun s' _ _ => .refl _ _ _) (h.slots s hs)
theorem OwnAt.world {γ : Gh} {w w' : World} {t : Option Tag} {rows : List (List PV)} {v : Value} (e : w'.heap = w.heap) (h : OwnAt γ w t rows v) : OwnAt γ w' t rows v := by
  unfold OwnAt at h ⊢
  rw [e]; exact h
theorem ext_heap {γ γ' : Gh} {w w' w'' : World} (h : Ext γ w' γ' w'') (e : w'.heap = w.heap) (eo : w'.os = w.os ∧ w'.output = w.output ∧ w'.tape = w.tape) : Ext γ w γ' w'' :=
  ⟨by rw [← e]; exact h.size, h.leI, h.leO, h.D, ⟨h.io.1.trans eo.1, h.io.2.1.trans eo.2.1, h.io.2.2.trans eo.2.2⟩, fun b hb hg => by
    have := h.keep b (by rw [e]; exact hb) hg
    rw [e] at this; exact this⟩
theorem ext_left {γ : Gh} {B : Option Nat} {w w' : World} {γ' : Gh} (hB : ∀ b, B = some b → ∃ t, γ.G b = some t ∧ t ≠ .out) (h : Ext (mv γ B none) w γ' w') : Ext γ w γ' w' :=
  ⟨h.size, h.leI, h.leO, h.D, h.io, fun b hb hg => by
    have hne : B ≠ some b := by
      intro e
      obtain ⟨t, h1, h2⟩ := hB b e
      rw [h1] at hg; simp at hg; exact h2 hg
    have := h.keep b hb (by simp only [mv]; rw [if_neg hne]; exact hg)
    simp only [mv] at this
    rw [if_neg hne] at this
    exact this⟩
theorem elemT_und {P : Program} {t e : TypeId} (h : elemT P t = some e) : P.underlying t = some (.slice e) := by
  unfold elemT at h; split at h <;> simp at h; subst h; assumption
section run
variable {P : Program} {tx ty type e e' : TypeId} {k : Nat} {i : TypeInfo} (htx : elemT P tx = some e) (hty : elemT P ty = some e') (hz : szT P e = some (k + 1)) (hi : P.info? e = some i)
include htx hty hz
theorem append_in {w : World} {A : Option Addr} {n c r : Nat} {y : Value} {v2 : List Value} {A2 : Option Addr} {c2 : Nat} (hy : y = .slice A2 r c2) (hf : (Builtin.firstCells (k + 1) r y).run P w = .ok v2.toArray w) (hc : n + r ≤ c) :
    (Builtin.append_ #[tx, ty] type #[.slice A n c, y]).run P w = match A with
      | some a => ((storeCells (a.add (n * (k + 1))) v2).run P w).andThen fun _ w' => .ok (.slice A (n + r) c) w'
      | none => .ok (.slice none (n + r) c) w := by
  have u1 := elemT_und htx
  have u2 := elemT_und hty
  subst hy
  have ef : (Builtin.firstCells (k + 1) r (.slice A2 r c2)).run P w = .ok v2.toArray w := hf
  cases A with
  | none => simp [Builtin.append_, run_und w u1, run_und w u2, run_szT w hz, Builtin.lenOf, hc, ef]
  | some a => simp [Builtin.append_, run_und w u1, run_und w u2, run_szT w hz, Builtin.lenOf, hc, ef]
include hi
theorem append_new {w : World} {A : Option Addr} {n c r : Nat} {y : Value} {v1 v2 : List Value} {zv : Value} {A2 : Option Addr} {c2 : Nat} (hy : y = .slice A2 r c2)
    (hf : ∀ w' : World, w'.heap = w.heap → (Builtin.firstCells (k + 1) r y).run P w' = .ok v2.toArray w') (hf1 : ∀ w' : World, w'.heap = w.heap → (Builtin.firstCells (k + 1) n (.slice A n c)).run P w' = .ok v1.toArray w')
    (hzv : ∀ w : World, (zeroValue e).run P w = .ok zv w) (hb : i.bytes ≤ 100000) (hm : n + r ≤ 1000000000) (hc : c < n + r) :
    ∃ cap, n + r ≤ cap ∧ (Builtin.append_ #[tx, ty] type #[.slice A n c, y]).run P w =
      .ok (.slice (some ⟨w.heap.size, 0, none⟩) (n + r) cap) (pushW { w with drawn := w.drawn + 1 } (.cells (v1.toArray ++ v2.toArray ++ Builtin.zeroCells zv.cells (cap - (n + r))) e (0, 0))) := by
  have u1 := elemT_und htx
  have u2 := elemT_und hty
  refine ⟨Question.cut (.appendCap (n + r) c e) (w.tape w.drawn (.appendCap (n + r) c e)), by simp [Question.cut], ?_⟩
  have hinfo : ∀ w : World, (typeInfo e).run P w = .ok i w := fun w => by simp [typeInfo, hi]
  have hnx := next_le (n + r) c hc
  have hle : Builtin.nextslicecap (n + r) c * i.bytes ≤ 2 ^ 48 := by
    have h1 : Builtin.nextslicecap (n + r) c * i.bytes ≤ (2 * (n + r) + 1024) * 100000 := Nat.mul_le_mul hnx hb
    have h2 : (2 * (n + r) + 1024) * 100000 ≤ 281474976710656 := by omega
    exact Nat.le_trans h1 h2
  have hmax : ¬ ((n + r : Nat) : Int) > IntKind.i64.max := by
    have : IntKind.i64.max = 9223372036854775807 := by decide
    omega
  subst hy
  simp only [Builtin.append_, Sem.run_bind, Sem.run_pure, Result.andThen_ok, run_und w u1, run_und w u2, run_szT w hz, Builtin.lenOf, List.getElem?_toArray, List.getElem?_cons_zero, List.getElem?_cons_succ, Bool.false_eq_true, if_false]
  rw [if_neg (show ¬ n + r ≤ c by omega)]
  simp only [Sem.run_bind, hinfo, Result.andThen_ok]
  rw [if_neg (fun h => hmax h.1)]
  simp only [Sem.run_bind, hinfo, Result.andThen_ok]
  rw [if_neg (Nat.not_lt.2 hle)]
  simp only [Sem.run_bind, run_choose, Question.forced, Bool.false_eq_true, if_false, Result.andThen_ok, hinfo, run_askRoom]
  rw [hf1 { w with drawn := w.drawn + 1 } rfl]
  simp only [Result.andThen_ok, Bool.not_false, if_true]
  rw [hf { w with drawn := w.drawn + 1 } rfl]
  simp only [Result.andThen_ok, hzv, newRow, Sem.run_bind, run_newObj, Sem.run_pure]
  rfl
end run
theorem flat_own {P : Program} {γ : Gh} {w : World} {k : Nat} {t : Option Tag} {rows : List (List PV)} {v : Value} (imm : ∀ b o v, γ.I b o = some v → w.cell? ⟨b, o, none⟩ = some v) (h : OwnAt γ w t rows v) (hk : rowsOk k rows = true) (h0 : 0 < k) :
    ∃ vals A c, Flat γ k rows vals ∧ (∀ w' : World, w'.heap = w.heap → (Builtin.firstCells k rows.length v).run P w' = .ok vals.toArray w') ∧ v = .slice A rows.length c :=
  flat_rep imm h.rep hk h0
/-- append. -/
theorem append_sound {P : Program} {γ : Gh} {st : St} {a : Act} {w : World} (h : Rel γ st a w) {x y : Operand} {tx ty type e e' : TypeId} {k : Nat} {z : List PV} {i : TypeInfo} {rows : List (List PV)} {d : Option Tmp} {K : St → Prop}
    (htx : elemT P tx = some e) (hty : elemT P ty = some e') (hz : szT P e = some (k + 1)) (hzero : zeroT P e = some z) (hi : P.info? e = some i) (hx : Ev.raw st.sl x = .list true rows)
    (hk : chk (z.length == k + 1 && (decide (i.bytes ≤ mostB) && ((val st.sl y).isL && (rowsOk (k + 1) rows && (rowsOk (k + 1) (val st.sl y).rows && decide (rows.length + (val st.sl y).rows.length ≤ mostL))))))
      (K ⟨setD (moved st.sl x) d (.list true (rows ++ (val st.sl y).rows)), st.sg⟩)) :
    ∃ γ' st' v w', K st' ∧ (Builtin.append_ #[tx, ty] type #[a.eval x, a.eval y]).run P w = .ok v w' ∧ Rel γ' st' (a.put d v) w' ∧ Ext γ w γ' w' := by
  obtain ⟨h0, hk⟩ := chk_iff.mp hk
  simp only [Bool.and_eq_true, beq_iff_eq, mostL] at h0
  obtain ⟨c1, c2, c3, c4, c5, c6⟩ := h0
  have c2 : i.bytes ≤ 100000 := of_decide_eq_true c2
  have c6 := of_decide_eq_true c6
  have hy := h.val y
  have hyl : val st.sl y = .list false (val st.sl y).rows := by
    cases hv : val st.sl y <;> rw [hv] at c3 <;> simp [PV.isL] at c3
    rw [hv] at hy
    rw [(Rep.rows hy).1]; rfl
  rw [hyl] at hy
  generalize hr2 : (val st.sl y).rows = r2 at *
  obtain ⟨v2, A2, cap2, hF2, hfc2, hy2⟩ := flat_rep (P := P) h.imm hy c5 (Nat.succ_pos k)
  obtain ⟨B, h1, h2, h3⟩ := moved_sound h hx
  have hB : ∀ b, B = some b → ∃ t, γ.G b = some t ∧ t ≠ .out := fun b e => let ⟨r, hr⟩ := (h1 b e).1; ⟨_, hr, by simp⟩
  obtain ⟨v1, A1, cap1, hF1, hfc1, hx1⟩ := flat_own (P := P) h2.imm (h3 none) c4 (Nat.succ_pos k)
  by_cases hin : rows.length + r2.length ≤ cap1
  · rcases h3 none with ⟨rfl, A0, hA0, hA0'⟩ | ⟨hne, A, c, k', arr, el, e1, e2, e3, e4, e5, e6, e7, e8⟩
    · rw [hA0] at hx1
      injection hx1 with _ _ hcap
      subst hcap
      simp only [List.length_nil, Nat.zero_add, Nat.le_zero] at hin
      have hr : r2 = [] := List.eq_nil_of_length_eq_zero hin
      subst hr
      have hv2 : v2 = [] := List.eq_nil_of_length_eq_zero (by have := hF2.1; simpa using this)
      subst hv2
      have hrun := append_in (type := type) (n := 0) (c := 0) (A := A0) htx hty hz hy2 (hfc2 w rfl) (by simp)
      obtain ⟨t, h4⟩ := Rel.setFree h2 (fun b e => (h1 b e).2) (d := d) h3
      rw [hA0] at h4
      refine ⟨_, _, .slice A0 0 0, w, hk, ?_, h4, ext_mv hB⟩
      rw [hA0, hrun]
      cases A0 with
      | none => rfl
      | some a => rfl
    · rw [e1] at hx1
      injection hx1 with hA _ hcap
      subst hcap
      have hkk : k' = k + 1 := by
        cases rows with
        | nil => exact (hne rfl).elim
        | cons r rs => rw [← e4.1 r (by simp), (rowsOk_iff.1 c4) r (by simp)]
      subst hkk
      have hBA : B = some A.block := by
        cases B with
        | none =>
          obtain ⟨B', q1, q2⟩ := (h3 none).block
          rw [mv_none] at e5
          exact absurd (by
            rcases h3 (some (.lv 0)) with ⟨q, _⟩ | ⟨_, A', c', k'', arr', el', e1', _, _, _, e5', _⟩
            · exact (hne q).elim
            · rw [e1] at e1'
              injection e1' with q1 q2 q3
              injection q1 with q1
              subst q1
              rw [mv_none, e5] at e5'
              cases e5') (fun q : False => q)
        | some b =>
          rcases h3 (some (.lv 0)) with ⟨q, _⟩ | ⟨_, A', c', k'', arr', el', e1', _, _, _, e5', _⟩
          · exact (hne q).elim
          · rw [e1] at e1'
            injection e1' with q1 q2 q3
            injection q1 with q1
            subst q1
            simp only [mv] at e5 e5'
            by_cases q : some b = some A.block
            · exact q
            · rw [if_neg q] at e5 e5'
              rw [e5] at e5'; cases e5'
      subst hBA
      obtain ⟨γ1, w', k1, k2, k3, k4, k5⟩ := own_grow (P := P) (γ := γ) (hB A.block rfl) h2 e2 e4 e6 e7 e8 (hF2.mono (γ := γ) (γ' := γ) (.refl _) (.refl _)) hin hne
      obtain ⟨t, h4⟩ := Rel.setFree k2 (fun b e => by injection e with e; subst e; exact k4) (d := d) k5
      have hrun := append_in (type := type) (n := rows.length) (A := some A) htx hty hz hy2 (hfc2 w rfl) hin
      refine ⟨_, _, _, w', hk, ?_, h4, k3 t⟩
      rw [e1, hrun]
      simp only [k1, Result.andThen_ok]
  · obtain ⟨zv, _, hz2, hz3, i', hi', hzv'⟩ := zero_nil (P := P) (γ := γ) (w := w) hzero
    have hzv : ∀ w : World, (zeroValue e).run P w = .ok zv w := fun w => by simp [zeroValue, typeInfo, hi', hzv']
    obtain ⟨cap, q1, q2⟩ := append_new (type := type) (n := rows.length) (c := cap1) (A := A1) htx hty hz hi hy2 hfc2 (by rw [← hx1]; exact hfc1) hzv c2 (by omega) (by omega)
    rw [← hx1] at q2
    have h2' : Rel (mv γ B none) ⟨moved st.sl x, st.sg⟩ a { w with drawn := w.drawn + 1 } := h2.world rfl
    have hFF := hF1.append (hF2.mono (γ' := mv γ B none) (.refl _) (.refl _))
    have hlen : v1.length + v2.length = (rows.length + r2.length) * (k + 1) := by rw [hF1.1, hF2.1, Nat.add_mul]
    have hzs : zv.cells.size = k + 1 := by rw [← hz2, c1]
    obtain ⟨γ1, g1, g2, _, g3⟩ := own_new (c := cap) (arr := v1.toArray ++ v2.toArray ++ Builtin.zeroCells zv.cells (cap - (rows.length + r2.length))) h2' e hFF (by
        intro o ho
        simp only [List.length_append] at ho
        have : o < (v1 ++ v2).length := by simp; omega
        simp only [Array.getD_eq_getD_getElem?, List.getD_eq_getElem?_getD]
        rw [Array.getElem?_append_left (by simpa using this)]
        simp) (by simpa using q1) (by
        simp only [Array.size_append, List.size_toArray, Builtin.zeroCells, Array.size_map, Array.size_range, hzs, hlen]
        rw [← Nat.add_mul]
        exact Nat.le_of_eq (by congr 1; omega)) (by
        intro e0
        have := congrArg List.length e0
        simp only [List.length_append, List.length_nil] at this
        omega)
    obtain ⟨t, h4⟩ := Rel.setFree g1 (fun b e => by injection e with e; subst e; simp [pushW]) (d := d) g3
    refine ⟨_, _, _, _, hk, ?_, h4, ?_⟩
    · rw [q2]; simp only [List.length_append]
    · exact ext_left hB (ext_heap (g2 t) rfl ⟨rfl, rfl, rfl⟩)
end Go.Ev
namespace Go.Ev
open PV
theorem flatten_getD (z : List PV) (k : Nat) (hz : z.length = k) (hk : 0 < k) : ∀ (n m : Nat), m < n * k → ((List.replicate n z).flatten).getD m .undef = z.getD (m % k) .undef
  | 0, m, h => by simp at h
  | n + 1, m, h => by
    simp only [List.replicate_succ, List.flatten_cons, List.getD_eq_getElem?_getD]
    by_cases hm : m < k
    · rw [List.getElem?_append_left (by omega), Nat.mod_eq_of_lt hm]
    · rw [List.getElem?_append_right (by omega), hz]
      have := flatten_getD z k hz hk n (m - k) (by rw [Nat.add_mul] at h; omega)
      simp only [List.getD_eq_getElem?_getD] at this
      rw [this, ← Nat.mod_eq_sub_mod (by omega)]
theorem flatten_len (z : List PV) (k : Nat) (hz : z.length = k) (n : Nat) : ((List.replicate n z).flatten).length = n * k := by
  simp [hz]
theorem rows_getD (cs : List PV) (k n i j : Nat) (hl : cs.length = n * k) (hi : i < n) (hj : j < k) :
    (((List.range n).map fun i => ((cs.drop (i * k)).take k).map cstrip).getD i []).getD j .undef = (cs.getD (i * k + j) .undef).cstrip := by
  have h1 : ((List.range n).map fun i => ((cs.drop (i * k)).take k).map cstrip).getD i [] = ((cs.drop (i * k)).take k).map cstrip := by
    simp [List.getD_eq_getElem?_getD, hi]
  have hlt := idx_lt hi hj
  rw [h1, getD_map' cstrip _ j .undef .undef (by simp; have : i * k + k ≤ n * k := by rw [← Nat.succ_mul]; exact Nat.mul_le_mul_right k hi
                                                 omega)]
  congr 1
  simp [List.getD_eq_getElem?_getD, List.getElem?_take, hj, List.getElem?_drop]
theorem rows_flat {γ : Gh} {cs : List PV} {arr : Array Value} {k n : Nat} (hk : 0 < k) (hl : cs.length = n * k) (ha : cs.length = arr.size) (hc : cs.all isCell = true) (hN : ∀ j, j < cs.length → NilAt γ (cs.getD j .undef) (arr.getD j Go.undef)) :
    Flat γ k ((List.range n).map fun i => ((cs.drop (i * k)).take k).map cstrip) arr.toList := by
  refine ⟨by simp; omega, ?_, ?_, ?_⟩
  · intro r hr
    simp only [List.mem_map, List.mem_range] at hr
    obtain ⟨i, hi, rfl⟩ := hr
    simp
    have : i * k + k ≤ n * k := by rw [← Nat.succ_mul]; exact Nat.mul_le_mul_right k hi
    omega
  · intro v hv
    rw [Array.mem_toList_iff] at hv
    obtain ⟨j, hj, rfl⟩ := Array.mem_iff_getElem.mp hv
    have hj' : j < cs.length := by omega
    have := hN j hj'
    rw [show arr.getD j Go.undef = arr[j] by simp [Array.getD_eq_getD_getElem?, hj], show cs.getD j .undef = cs[j] by simp [List.getD_eq_getElem?_getD, hj']] at this
    rcases this with ⟨_, A, e, _⟩ | h
    · rw [e]; rfl
    · simp only [List.all_eq_true] at hc
      exact h.cell (hc _ (List.getElem_mem hj'))
  · intro i j hi hj
    simp only [List.length_map, List.length_range] at hi
    rw [rows_getD cs k n i j hl hi hj]
    have := (hN (i * k + j) (by rw [hl]; exact idx_lt hi hj)).cstrip
    rw [show arr.toList.getD (i * k + j) Go.undef = arr.getD (i * k + j) Go.undef by simp [List.getD_eq_getElem?_getD, Array.getD_eq_getD_getElem?]]
    exact this
theorem buildSlice_sound {P : Program} {γ : Gh} {st : St} {a : Act} {w : World} (h : Rel γ st a w) {t e : TypeId} {n k : Nat} {ps : Array (Nat × Operand)} {z : List PV} {d : Option Tmp} {K : St → Prop}
    (he : elemT P t = some e) (hz : szT P e = some (k + 1)) (hzero : zeroT P e = some z)
    (hk : chk (decide (n * (k + 1) ≤ mostC) && z.length == k + 1) (fillV P (fun i => some (i * (k + 1), e)) st.sl (fun cs => chk (cs.all isCell) (K ⟨setD st.sl d (.list true ((List.range n).map fun i => ((cs.drop (i * (k + 1))).take (k + 1)).map cstrip)), st.sg⟩)) ((List.replicate n z).flatten) ps.toList)) :
    ∃ γ' st' v w', K st' ∧ (Instr.buildSlice t n (ps.map fun (i, x) => (i, a.eval x))).run P w = .ok v w' ∧ Rel γ' st' (a.put d v) w' ∧ Ext γ w γ' w' ∧ Mild true γ w γ' w' := by
  obtain ⟨h0, hk⟩ := chk_iff.mp hk
  simp only [Bool.and_eq_true, beq_iff_eq] at h0
  obtain ⟨c1, c2⟩ := h0
  have c1 : n * (k + 1) ≤ 16777216 := of_decide_eq_true c1
  have hu := elemT_und he
  obtain ⟨zv, hz1, hz2, hz3, i', hi', hzv'⟩ := zero_nil (P := P) (γ := γ) (w := w) hzero
  have hzs : zv.cells.size = k + 1 := by rw [← hz2, c2]
  let arr0 : Array Value := (Array.range (n * (k + 1))).map (zv.cells[· % zv.cells.size]!)
  have hf := fill_sound (P := P) (pl := fun i => some (i * (k + 1), e)) (place := fun i => some (i * (k + 1), k + 1)) h (fun i off ty m hp hm => by
      simp only [Option.some.injEq, Prod.mk.injEq] at hp
      obtain ⟨rfl, rfl⟩ := hp
      rw [hz] at hm
      injection hm with hm
      rw [hm]) ps.toList ((List.replicate n z).flatten) arr0 (by rw [flatten_len z (k + 1) c2]; simp [arr0]) (fun j hj => by
        rw [flatten_len z (k + 1) c2] at hj
        rw [flatten_getD z (k + 1) c2 (Nat.succ_pos k) n j hj]
        have hm : j % (k + 1) < k + 1 := Nat.mod_lt _ (Nat.succ_pos k)
        have e1 : arr0.getD j Go.undef = zv.cells.getD (j % (k + 1)) Go.undef := by
          simp only [arr0, hzs, Array.getD_eq_getD_getElem?]
          have h1 : j % (k + 1) < zv.cells.size := by omega
          simp [hj, h1]
        rw [e1]
        exact hz3 _ (by omega)) hk
  obtain ⟨cs', arr', k1, k2, k3, k4, k5⟩ := hf
  obtain ⟨hc, k1⟩ := chk_iff.mp k1
  rw [flatten_len z (k + 1) c2] at k4
  have hflat := rows_flat (γ := γ) (Nat.succ_pos k) k4 k3 hc k5
  have hrlen : ((List.range n).map fun i => ((cs'.drop (i * (k + 1))).take (k + 1)).map cstrip).length = n := by simp
  obtain ⟨γ1, g1, g2, gm, g3⟩ := own_new (c := n) (arr := arr') h e hflat (fun o ho => by simp [List.getD_eq_getElem?_getD, Array.getD_eq_getD_getElem?]) (by simp) (Nat.le_of_eq (by rw [← k3, k4])) (fun e0 => by rw [e0] at hrlen; simpa using hrlen.symm)
  obtain ⟨t', h4⟩ := Rel.setFree g1 (fun b e => by injection e with e; subst e; simp [pushW]) (d := d) g3
  refine ⟨_, _, _, _, k1, ?_, h4, g2 t', gm t'⟩
  have hp : (ps.map fun x => (x.1, a.eval x.2)).toList = ps.toList.map fun x => (x.1, a.eval x.2) := by simp
  have hle : ¬ n * (k + 1) > 2 ^ 24 := by
    have : (2 : Nat) ^ 24 = 16777216 := by decide
    omega
  simp only [Instr.buildSlice, Sem.run_bind, run_und w hu, Result.andThen_ok, run_szT w hz]
  rw [if_neg hle]
  by_cases hn : n * (k + 1) = 0
  · have hn0 : n = 0 := by
      rcases Nat.mul_eq_zero.1 hn with h | h
      · exact h
      · omega
    subst hn0
    have e0 : arr0 = #[] := by simp [arr0]
    rw [e0] at k2
    simp only [Sem.run_bind, if_pos hn, Sem.run_pure, Result.andThen_ok, hp]
    have e1 : (Array.map (fun x : Nat => (#[] : Array Value)[x % (#[] : Array Value).size]!) (Array.range (0 * (k + 1)))) = #[] := by simp
    simp only [e1, k2, newRow, Sem.run_bind, run_newObj, Result.andThen_ok, Sem.run_pure]
    rfl
  · simp only [Sem.run_bind, if_neg hn, hz1, Sem.run_pure, Result.andThen_ok, hp]
    simp only [arr0] at k2
    simp only [k2, newRow, Sem.run_bind, run_newObj, Result.andThen_ok, Sem.run_pure, hrlen]
    rfl
def Tag.hide : Tag → Tag
  | .ob i => .ob i
  | .oc i j => .oc i j
  | _ => .out
def hide (γ : Gh) : Gh := { γ with G := fun b => (γ.G b).map Tag.hide }
theorem Objs.hide {γ : Gh} {sg : List (List PV)} {w : World} (h : Objs γ sg w) : Objs (hide γ) sg w := by
  have hS : ∀ t, t.hide = t → Same γ w (Ev.hide γ) w t := fun t e b hb => ⟨rfl, by simp [Ev.hide, hb, e], fun _ => rfl⟩
  refine Objs.keep (γ := γ) (γ' := Ev.hide γ) (w := w) (w' := w) (.refl _) rfl ⟨fun i => hS _ rfl, fun i j => hS _ rfl⟩ h.imm (fun b t hb => ?_) h
  simp only [Ev.hide, Option.map_eq_some_iff] at hb
  obtain ⟨t', h1, _⟩ := hb
  exact h.inH b t' h1
/-- What a call gives. -/
def ResAt (γ : Gh) (w : World) (p : PV) (v : Value) : Prop := (∃ rows, p = .list true rows ∧ OwnAt γ w (some .rs) rows v) ∨ Rep γ.I γ.ob p v
def CallPost (γ : Gh) (w : World) (K : Res → List (List PV) → Prop) (e : Ending) (w' : World) : Prop :=
  ∃ γ' r sg', K r sg' ∧ Objs γ' sg' w' ∧ Ext γ w γ' w' ∧ match e with
    | .returned v => r.pan = false ∧ ResAt γ' w' r.v v
    | .panicked ch => r.pan = true ∧ ∃ v, ch = [{ v := v, recovered := false }] ∧ Rep γ'.I γ'.ob r.v v
    | .outgrown => False
def RepArgs (γ : Gh) (args : List PV) (cargs : Array Value) : Prop := args.length = cargs.size ∧ ∀ j, j < args.length → Rep γ.I γ.ob (args.getD j .undef) (cargs.getD j Go.undef)
/-- I0: cells that were there ahead of all, and stay as they are. -/
def CallSound (P : Program) (I0 : Nat → Nat → Option Value) (call : Caller) : Prop :=
  ∀ f args sg K, call f args sg K → ∀ γ w cargs, LeI I0 γ.I → Objs γ sg w → RepArgs γ args cargs → Calls P f cargs w (CallPost γ w K)
/-- The ghost behind a call: the caller's own as before, the objects' as the callee left them. -/
def back (γ γ' : Gh) : Gh := { γ' with D := γ.D, G := fun b => match γ.G b with
  | some (.ob _) => (match γ'.G b with | some (.ob i) => some (.ob i) | some (.oc i j) => some (.oc i j) | _ => none)
  | some (.oc _ _) => (match γ'.G b with | some (.ob i) => some (.ob i) | some (.oc i j) => some (.oc i j) | _ => none)
  | none => (match γ'.G b with | some (.ob i) => some (.ob i) | some (.oc i j) => some (.oc i j) | _ => none)
  | some t => some t }
theorem back_frame {γ γ' : Gh} {b : Nat} {t : Tag} (h : γ.G b = some t) (ht : t.hide = .out) : (back γ γ').G b = some t := by
  simp only [back, h]
  cases t <;> simp [Tag.hide] at ht <;> rfl
theorem back_obj {γ γ' : Gh} {b : Nat} {t : Tag} (h : γ'.G b = some t) (ht : t.hide = t) (hto : t ≠ .out) (hb : ∀ t', γ.G b = some t' → t'.hide ≠ .out) : (back γ γ').G b = some t := by
  simp only [back]
  cases e : γ.G b with
  | none => simp only [h]; cases t <;> first | rfl | (simp [Tag.hide] at ht; done) | exact (hto rfl).elim
  | some t' =>
    have := hb t' e
    cases t' <;> simp [Tag.hide] at this <;> simp only [h] <;> (cases t <;> first | rfl | (simp [Tag.hide] at ht; done) | exact (hto rfl).elim)
theorem back_none {γ γ' : Gh} {b : Nat} (h : γ.G b = none) (h' : γ'.G b = none) : (back γ γ').G b = none := by
  simp only [back, h, h']
section call
variable {γ γ' : Gh} {st : St} {a : Act} {w w' : World} {sg' : List (List PV)}
/-- The caller's relation behind a call. -/
theorem rel_back (h : Rel γ st a w) (hO : Objs γ' sg' w') (hE : Ext (hide γ) w γ' w') : Rel (back γ γ') ⟨st.sl, sg'⟩ a w' := by
  have hfr : ∀ b t, γ.G b = some t → t.hide = .out → w'.heap[b]? = w.heap[b]? ∧ γ'.G b = some .out ∧ ∀ o, γ'.I b o = γ.I b o := by
    intro b t hb ht
    have := hE.keep b (h.inH b t hb) (.inr (by simp [hide, hb, ht]))
    refine ⟨this.1, ?_, this.2.2⟩
    rw [this.2.1]; simp [hide, hb, ht]
  have hS : ∀ t, t.hide = .out → Same γ w (back γ γ') w' t := fun t ht b hb => ⟨(hfr b t hb ht).1, back_frame hb ht, (hfr b t hb ht).2.2⟩
  have hS' : ∀ t, t.hide = t → t ≠ .out → Same γ' w' (back γ γ') w' t := fun t ht hto b hb => ⟨rfl, back_obj hb ht hto (fun t' ht' he => by
    have := (hfr b t' ht' he).2.1
    rw [hb] at this; injection this with this; exact hto this), fun _ => rfl⟩
  refine ⟨?_, h.size, h.defers, fun s hs => ?_⟩
  · refine Objs.keep (γ := γ') (γ' := back γ γ') (w := w') (w' := w') (.refl _) rfl ⟨fun i => hS' _ rfl (by simp), fun i j => hS' _ rfl (by simp)⟩ hO.imm (fun b t hb => ?_) hO
    cases e : γ.G b with
    | some t' => exact Nat.lt_of_lt_of_le (h.inH b t' e) hE.size
    | none =>
      simp only [back, e] at hb
      cases e' : γ'.G b with
      | none => rw [e'] at hb; cases hb
      | some t' => exact hO.inH b t' e'
  · exact SlotAt.keep (γ := γ) (γ' := back γ γ') (w := w) (w' := w') hE.leI hE.leO ⟨hS _ rfl, hS _ rfl, fun _ => hS _ rfl⟩ (fun s' _ _ => .refl _ _ _) (h.slots s hs)
theorem ext_back (hE : Ext (hide γ) w γ' w') (hin : ∀ b t, γ.G b = some t → b < w.heap.size) : Ext γ w (back γ γ') w' := by
  refine ⟨hE.size, hE.leI, hE.leO, rfl, hE.io, fun b hb hg => ?_⟩
  have := hE.keep b hb (by rcases hg with hg | hg <;> simp [hide, hg, Tag.hide])
  refine ⟨this.1, ?_, this.2.2⟩
  rcases hg with hg | hg
  · rw [hg]; exact back_none hg (by rw [this.2.1]; simp [hide, hg])
  · rw [hg]; exact back_frame hg rfl
theorem mild_back (hE : Ext (hide γ) w γ' w') (hin : ∀ b t, γ.G b = some t → b < w.heap.size) : Mild false γ w (back γ γ') w' := by
  refine ⟨hE.leI, fun b t hb ht => ?_⟩
  have ho : t.hide = .out := by cases t <;> simp [boxTag] at ht <;> rfl
  have := hE.keep b (hin b t hb) (.inr (by simp [hide, hb, ho]))
  exact ⟨back_frame hb ho, this.1⟩
/-- A slice with its room that a call gives. -/
theorem res_own (h : Rel γ st a w) (hO : Objs γ' sg' w') (hE : Ext (hide γ) w γ' w') {rows : List (List PV)} {v : Value} (hv : OwnAt γ' w' (some .rs) rows v) :
    ∃ B : Option Nat, (∀ b, B = some b → γ'.G b = some .rs) ∧ (∀ b, B = some b → (back γ γ').G b = none ∧ b < w'.heap.size) ∧ ∀ t, OwnAt (mv (back γ γ') B t) w' t rows v := by
  rcases hv with hv | ⟨hr, A, c, k, arr, el, rfl, h2, h3, h4, h5, h6, h7, h8⟩
  · exact ⟨none, by simp, by simp, fun t => .inl hv⟩
  · refine ⟨some A.block, fun b e => by injection e with e; subst e; exact h5, fun b e => ?_, fun t => .inr ⟨hr, A, c, k, arr, el, rfl, h2, h3, h4, by simp [mv], h6, h7, h8⟩⟩
    injection e with e; subst e
    refine ⟨?_, (Array.getElem?_eq_some_iff.1 h6).1⟩
    have hno : ∀ t, γ.G A.block = some t → t.hide ≠ .out := by
      intro t ht he
      have := hE.keep A.block (h.inH _ _ ht) (.inr (by simp [hide, ht, he]))
      rw [h5] at this
      simp [hide, ht, he] at this
    simp only [back]
    cases e : γ.G A.block with
    | none => simp [h5]
    | some t =>
      have := hno t e
      cases t <;> simp [Tag.hide] at this <;> simp [h5]
end call
end Go.Ev
namespace Go.Ev
open PV
theorem Rel.reslot {γ : Gh} {st : St} {a : Act} {w : World} (h : Rel γ st a w) (d : Nat) (p : PV) (hp : Rep γ.I γ.ob p (a.tmps.getD d Go.undef)) : Rel γ ⟨st.sl.set d p, st.sg⟩ a w := by
  have := h.setQ (some d) p (a.tmps.getD d Go.undef) hp.isQuiet (fun _ => hp.slot)
  rw [act_same] at this
  exact this
theorem cellsAs_bval {P : Program} {γ : Gh} {w : World} {sl : List PV} {tm : Array Value} {s : Nat} {t : TypeId} {p : PV} {v : Value} {K : List PV → Prop} (h : SlotAt γ w sl tm s p v) (hk : cellsAs P t (bval p) K) :
    ∃ vs, K vs ∧ vs.length = v.cells.size ∧ ∀ j, j < vs.length → NilAt γ (vs.getD j .undef) (v.cells.getD j Go.undef) := by
  by_cases hp : ∃ rows, p = .list true rows
  · obtain ⟨rows, rfl⟩ := hp
    have ho : OwnAt γ w (some (.lv s)) rows v := h
    cases rows with
    | nil =>
      simp only [bval] at hk
      have h0 : Own0 v := by
        rcases ho with ⟨_, h0⟩ | ⟨hne, _⟩
        · exact h0
        · exact (hne rfl).elim
      obtain ⟨A, rfl, hA⟩ := h0
      unfold cellsAs at hk
      split at hk
      · obtain ⟨h1, _⟩ := chk_iff.mp hk
        simp [PV.isAgg] at h1
      · obtain ⟨_, hk⟩ := chk_iff.mp hk
        refine ⟨_, hk, rfl, fun j hj => ?_⟩
        simp only [List.length_singleton] at hj
        have : j = 0 := by omega
        subst this
        exact .inl ⟨rfl, A, rfl, hA⟩
      · exact hk.elim
    | cons r rs =>
      have hr := ho.rep
      obtain ⟨vs, n, k1, k2, k3, k4, k5, k6⟩ := cellsAs_rep hr (p := .list false (r :: rs)) hk
      exact ⟨vs, k1, by omega, fun j hj => .inr (k6 j (by omega))⟩
  · have hp' : ∀ rows, p ≠ .list true rows := fun rows e => hp ⟨rows, e⟩
    have e : bval p = mval' p := by
      cases p <;> first | rfl | skip
      rename_i o r
      cases o with
      | false => rfl
      | true => exact (hp' r rfl).elim
    rw [e] at hk
    obtain ⟨vs, n, k1, k2, k3, k4, k5, k6⟩ := cellsAs_slot h hp' hk
    exact ⟨vs, k1, by omega, fun j hj => k6 j (by omega)⟩
def rowInt : List PV → Int
  | [.int .u8 n] => n
  | _ => 0
theorem push_all (ns : List Int) : ∀ s : ByteArray, ns.foldl (fun r n => r.push (UInt8.ofNat n.toNat)) s = ⟨(s.data.toList ++ ns.map fun n => UInt8.ofNat n.toNat).toArray⟩ := by
  induction ns with
  | nil => intro s; obtain ⟨⟨l⟩⟩ := s; simp
  | cons n r ih =>
    intro s
    rw [List.foldl_cons, ih]
    obtain ⟨⟨l⟩⟩ := s
    simp [ByteArray.push]
theorem row_byte {r : List PV} (h : isByteRow r = true) : r = [.int .u8 (rowInt r)] ∧ rowByte r = UInt8.ofNat (rowInt r).toNat := by
  unfold isByteRow at h
  split at h
  · exact ⟨rfl, rfl⟩
  · cases h
theorem conv_run {P : Program} {γ : Gh} {w : World} {p : PV} {v : Value} (imm : ∀ b o v, γ.I b o = some v → w.cell? ⟨b, o, none⟩ = some v) (h : Rep γ.I γ.ob p v) (h1 : p.isL = true) (h2 : p.rows.all isByteRow = true)
    {t u e : TypeId} (ht : P.underlying t = some (.slice e)) (he : P.underlying e = some (.int .u8)) (hu : P.underlying u = some .string) : (convert t u v).run P w = .ok (.string (bytesOf p.rows)) w := by
  cases p with
  | list o rows =>
    obtain ⟨rfl, _⟩ := Rep.rows h
    have hrows : ∀ r ∈ rows, isByteRow r = true := List.all_eq_true.1 h2
    have hok : rowsOk 1 rows = true := by
      simp only [rowsOk, List.all_eq_true, beq_iff_eq]
      intro r hr
      rw [(row_byte (hrows r hr)).1]; rfl
    obtain ⟨vals, A, c, ⟨f1, f2, f3, f4⟩, hrun, rfl⟩ := flat_rep (P := P) imm h hok (by omega)
    have hvals : vals = (rows.map rowInt).map (Value.int .u8) := by
      apply List.ext_getElem
      · simp [f1]
      · intro i hi hi'
        have hir : i < rows.length := by simpa using hi'
        have := f4 i 0 hir (by omega)
        rw [Nat.mul_one, Nat.add_zero] at this
        have e1 : rows.getD i [] = rows[i] := by simp [List.getD_eq_getElem?_getD, hir]
        have e2 : vals.getD i Go.undef = vals[i] := by simp [List.getD_eq_getElem?_getD, hi]
        rw [e1, e2, (row_byte (hrows rows[i] (List.getElem_mem hir))).1] at this
        simp only [List.getElem_map]
        generalize vals[i] = x at *
        cases this
        rfl
    rw [run_convert_bytes_string w t u e A rows.length c ht he hu]
    have hb : bytesOf rows = (rows.map rowInt).foldl (fun r n => r.push (UInt8.ofNat n.toNat)) ByteArray.empty := by
      rw [push_all]
      unfold bytesOf
      have : rows.map rowByte = (rows.map rowInt).map fun n => UInt8.ofNat n.toNat := by
        rw [List.map_map]
        exact List.map_congr_left fun r hr => (row_byte (hrows r hr)).2
      rw [this]; rfl
    show _ = Result.ok (Value.string (bytesOf rows)) w
    rw [hb]
    have hr := hrun w rfl
    cases A with
    | none =>
      have : vals = [] := by
        have h3 : (Result.ok (#[] : Array Value) w) = .ok vals.toArray w := hr
        injection h3 with h3
        simpa using h3.symm
      have hn : rows = [] := by
        rw [this] at f1
        exact List.eq_nil_of_length_eq_zero (by simpa using f1.symm)
      subst hn
      rfl
    | some A =>
      rw [hvals] at hr
      have hr : (loadCells A (rows.length * 1)).run P w = .ok ((rows.map rowInt).map (Value.int .u8)).toArray w := hr
      rw [Nat.mul_one] at hr
      exact run_bytesToString w A rows.length c (rows.map rowInt) hr
  | _ => cases h1
/-- What is asked of a program. -/
structure NoNG (P : Program) : Prop where
  ng : ∀ (f : FuncId) (F : Func), P.funcs[f]? = some F → (F.name == "runtime.NumGoroutine") = false
  mix : P.follows .mixedOrders = true
theorem args_rep {γ : Gh} {st : St} {a : Act} {w : World} (h : Rel γ st a w) {first caps : List PV} {vf vc : Array Value} (args : Array Operand) (h1 : RepArgs γ first vf) (h2 : RepArgs γ caps vc) :
    RepArgs γ (first ++ args.toList.map (val st.sl) ++ caps) (vf ++ args.map a.eval ++ vc) := by
  obtain ⟨l1, r1⟩ := h1
  obtain ⟨l2, r2⟩ := h2
  refine ⟨by simp; omega, fun j hj => ?_⟩
  simp only [List.length_append, List.length_map, Array.length_toList] at hj
  simp only [List.getD_eq_getElem?_getD, Array.getD_eq_getD_getElem?]
  by_cases c1 : j < first.length
  · have := r1 j c1
    simp only [List.getD_eq_getElem?_getD, Array.getD_eq_getD_getElem?] at this
    rw [List.getElem?_append_left (by simp; omega), List.getElem?_append_left c1, Array.getElem?_append_left (by simp; omega), Array.getElem?_append_left (by omega)]
    exact this
  · by_cases c2 : j < first.length + args.size
    · have h3 : j - first.length < args.size := by omega
      rw [List.getElem?_append_left (by simp; omega), List.getElem?_append_right (by omega), Array.getElem?_append_left (by simp; omega), Array.getElem?_append_right (by omega)]
      rw [← l1]
      simp only [List.getElem?_map, Array.getElem?_map, Array.getElem?_toList, Array.getElem?_eq_getElem h3, Option.map_some, Option.getD_some]
      exact h.val _
    · have := r2 (j - (first.length + args.size)) (by omega)
      simp only [List.getD_eq_getElem?_getD, Array.getD_eq_getD_getElem?] at this
      rw [List.getElem?_append_right (by simp; omega), Array.getElem?_append_right (by simp; omega)]
      simp only [List.length_append, List.length_map, Array.length_toList, Array.size_append, Array.size_map]
      rw [← l1]
      exact this
theorem tyR_sound {P : Program} {F : Func} {γ : Gh} {w : World} {p : PV} {v : Value} {K : PV → Prop} (h : ResAt γ w p v) (hk : tyR P F p K) : K p := by
  unfold tyR at hk
  split at hk
  · split at hk
    · exact hk
    · rename_i t d hd
      rcases h with ⟨rows, rfl, ho⟩ | h
      · -- a slice where none is told of
        unfold tyV at hk
        split at hk
        · obtain ⟨h1, _⟩ := chk_iff.mp hk
          simp [PV.isAgg] at h1
        · unfold tyC at hk
          split at hk
          · obtain ⟨h1, _⟩ := chk_iff.mp hk; simp [isB] at h1
          · obtain ⟨h1, _⟩ := chk_iff.mp hk; simp [isI] at h1
          · obtain ⟨h1, _⟩ := chk_iff.mp hk; simp [isS] at h1
          · rename_i e he; exact (hd e he).elim
          · exact hk
      · exact tyV_sound h hk
  · exact hk
section step
variable {P : Program} {call : Caller} {γ0 : Gh} {w0 : World}
def Next' (γ0 : Gh) (w0 : World) (K : St → Prop) (next : Act → World → Prop) : Prop := ∀ st a w γ, K st → Rel γ st a w → Ext γ0 w0 γ w → next a w
def Next2 (γ0 : Gh) (w0 : World) (γ : Gh) (w : World) (op : Op) (K : St → Prop) (next : Act → World → Prop) : Prop :=
  ∀ st a w' γ', K st → Rel γ' st a w' → Ext γ0 w0 γ' w' → (∀ m, mildOp m op = true → Mild m γ w γ' w') → next a w'
def Pan' (γ0 : Gh) (w0 : World) (X : PV → St → Prop) (Q : Exit → Act → World → Prop) : Prop :=
  ∀ p v st a w γ, X p st → Rep γ.I γ.ob p v → Rel γ st a w → Ext γ0 w0 γ w → Q (.panic [{ v := v, recovered := false }]) a w
theorem call_sound (hP : NoNG P) {I0 : Nat → Nat → Option Value} (hcall : CallSound P I0 call) (hI0 : LeI I0 γ0.I) {γ : Gh} {st : St} {a : Act} {w : World} (h : Rel γ st a w) (hE : Ext γ0 w0 γ w) {o : Oper} {f : Operand} {args : Array Operand} {ts : Array TypeId}
    (ho : o.op = .call { callee := .value f, args := args, argTypes := ts }) {K : St → Prop} {X : PV → St → Prop} (hk : callV P call st o.dst (val st.sl f) (args.toList.map (val st.sl)) K X)
    {next : Act → World → Prop} {Q : Exit → Act → World → Prop} (hn : Next2 γ0 w0 γ w o.op K next) (hx : Pan' γ0 w0 X Q) : o.wp P a w next Q := by
  have hmm : ∀ m, mildOp m o.op = true → m = false := fun m hm => by rw [ho] at hm; cases m <;> simp [mildOp] at hm ⊢
  have hf := h.val f
  generalize val st.sl f = pf at *
  unfold callV at hk
  split at hk
  · rename_i g first caps
    unfold callF at hk
    split at hk
    · rename_i F hF
      obtain ⟨hb, hk⟩ := chk_iff.mp hk
      generalize hv : a.eval f = vf at *
      cases hf with
      | fn _ _ _ vf vc l1 l2 r1 r2 =>
        have hrun : (execOp a.eval o).run P w = .ok (.enter g (vf ++ args.map a.eval ++ vc)) w := by
          have hnb : F.body.isNone = false := by cases hbb : F.body <;> simp [hbb] at hb ⊢
          simp only [execOp, ho, resolve, hv, Deferred.ofValue, Sem.run_bind, Sem.run_pure, Result.andThen_ok, invoke, callFunc, run_program, hF, hP.ng g F hF, hnb, Bool.false_eq_true, if_false]
        simp only [Oper.wp, hrun, Oper.upon_enter]
        refine (hcall g _ _ _ hk (hide γ) w _ (fun b o v hv => hE.leI _ _ _ (hI0 b o v hv)) h.toObjs.hide (args_rep h args ⟨l1, r1⟩ ⟨l2, r2⟩)).mono ?_
        rintro e w' ⟨γ', r, sg', hK, hO, hE', hres⟩
        have hback := rel_back h hO hE'
        have hEb := Ext.trans hE (ext_back hE' h.inH)
        have hMb := mild_back hE' h.inH
        cases e with
        | returned v =>
          obtain ⟨hpan, hres⟩ := hres
          rw [hpan] at hK
          have hK := tyR_sound (P := P) (F := F) (K := fun v => K ⟨setD st.sl o.dst v, sg'⟩) hres hK
          rcases hres with ⟨rows, hrv, hown⟩ | hrep
          · rw [hrv] at hK
            obtain ⟨B, b0, b1, b2⟩ := res_own h hO hE' hown
            cases hd : o.dst with
            | none =>
              rw [hd] at hK
              exact hn _ _ _ _ hK hback hEb (fun m hm => by rw [hmm m hm]; exact hMb)
            | some d =>
              rw [hd] at hK
              have h1 := hback.tag (B := B) (t := some (.lv d)) b1
              refine hn _ _ _ _ hK (h1.setOwn (b2 _)) (Ext.trans hE ?_) (fun m hm => by
                rw [hmm m hm]
                refine hMb.trans ⟨.refl _, fun b t hb ht => ⟨?_, rfl⟩⟩
                simp only [mv]
                rw [if_neg (fun e => by rw [(b1 b e).1] at hb; cases hb)]
                exact hb)
              refine ⟨hE'.size, hE'.leI, hE'.leO, rfl, hE'.io, fun b hb' hg => ?_⟩
              have := (ext_back hE' h.inH).keep b hb' hg
              refine ⟨this.1, ?_, this.2.2⟩
              simp only [mv]
              split
              · rename_i e
                have h2 := (hE'.keep b hb' (by rcases hg with hg | hg <;> simp [hide, hg, Tag.hide])).2.1
                rw [b0 b e] at h2
                rcases hg with hg | hg <;> simp [hide, hg, Tag.hide] at h2
              · exact this.2.1
          · exact hn _ _ _ _ hK (hback.setQ o.dst _ _ hrep.isQuiet (fun _ => Rep.slot (γ := back γ γ') hrep)) hEb (fun m hm => by rw [hmm m hm]; exact hMb)
        | panicked ch =>
          obtain ⟨hpan, v, rfl, hrep⟩ := hres
          rw [hpan] at hK
          exact hx _ _ _ _ _ (back γ γ') hK hrep hback hEb
        | outgrown => exact hres.elim
    · exact hk.elim
  · exact hk.elim
/-- Every operation is as the evaluator tells. -/
theorem step_sound (hP : NoNG P) {I0 : Nat → Nat → Option Value} (hcall : CallSound P I0 call) (hI0 : LeI I0 γ0.I) {γ : Gh} {st : St} {a : Act} {w : World} (h : Rel γ st a w) (hE : Ext γ0 w0 γ w) {hint : Hint} (o : Oper) {K : St → Prop} {X : PV → St → Prop}
    (hk : stepW P call hint o st K X) {next : Act → World → Prop} {Q : Exit → Act → World → Prop} (hn : Next2 γ0 w0 γ w o.op K next) (hx : Pan' γ0 w0 X Q) : o.wp P a w next Q := by
  have pure_case : pureW P st.sl st.sg o.type o.op (fun v => K ⟨setD st.sl o.dst v, st.sg⟩) → o.wp P a w next Q := by
    intro hk
    obtain ⟨p, v, h1, h2, h3, h4⟩ := pure_sound true h o hk
    simp only [Oper.wp, h2 w (fun _ => h.toObjs.held true), Oper.upon_value]
    exact hn _ _ _ γ h1 (h.setQ o.dst p v h3 h4) hE (fun m _ => .refl _ _ _)
  have val_case : ∀ (s : Sem Value) (γ' : Gh) (st' : St) (v : Value) (w' : World), (execOp a.eval o = do pure (.value (← s))) → K st' → s.run P w = .ok v w' → Rel γ' st' (a.put o.dst v) w' → Ext γ w γ' w' → (∀ m, mildOp m o.op = true → Mild m γ w γ' w') → o.wp P a w next Q := by
    intro s γ' st' v w' e h1 h2 h3 h4 h5
    simp only [Oper.wp, e, Sem.run_bind, h2, Result.andThen_ok, Sem.run_pure, Oper.upon_value]
    exact hn _ _ _ γ' h1 h3 (hE.trans h4) h5
  have new_case : ∀ (d : Nat) (vs : List PV) (arr : Array Value) (el : TypeId) (s : Sem Value), (execOp a.eval o = do pure (.value (← s))) → o.dst = some d → s.run P w = .ok (.pointer (some ⟨w.heap.size, 0, none⟩)) (pushW w (.cells arr el (0, 0))) →
      vs.length = arr.size → (∀ j, j < vs.length → NilAt γ (vs.getD j .undef) (arr.getD j Go.undef)) → newW hint.esc hint.im d vs st K → o.wp P a w next Q := by
    intro d vs arr el s e hd hs hl hv hk
    obtain ⟨γ', st', h1, h2, h3, h4⟩ := new_sound h el hl hv hk
    exact val_case s γ' st' _ _ e h1 hs (by rw [hd]; exact h2) h3 (fun m _ => h4.weak)
  obtain ⟨dst, op, type, pos, after, guard⟩ := o
  simp only at pure_case val_case new_case
  cases op with
  | assign x =>
    obtain ⟨γ', h1, h2, h3⟩ := assign_sound h x dst
    exact val_case (pure (a.eval x)) γ' _ _ w rfl hk rfl h1 h2 (fun m _ => h3.weak)
  | convert t u x =>
    simp only [stepW] at hk
    split at hk
    · rename_i e he hu
      split at hk
      · rename_i hb
        obtain ⟨h1, hk⟩ := chk_iff.mp hk
        simp only [Bool.and_eq_true] at h1
        exact val_case (convert t u (a.eval x)) γ _ _ w rfl hk (conv_run h.imm (h.val x) h1.1 h1.2 (elemT_und he) hb hu) (h.setQ dst _ _ rfl (fun _ => Rep.slot (.str _))) (.refl _ _) (fun m _ => .refl _ _ _)
      · exact hk.elim
    · exact pure_case hk
  | move x =>
    simp only [stepW] at hk
    split at hk
    · rename_i d
      cases ht : hint.tk.contains d with
      | true =>
        rw [ht] at hk
        obtain ⟨γ', h1, h2, h3⟩ := assign_sound h x (some d)
        exact val_case (pure (a.eval x)) γ' _ _ w rfl hk rfl h1 h2 (fun m _ => h3.weak)
      | false => rw [ht] at hk; exact pure_case hk
    · exact pure_case hk
  | load t x =>
    simp only [stepW] at hk
    split at hk
    · rename_i d
      cases ht : hint.tk.contains d with
      | true =>
        rw [ht] at hk
        simp only [bcond] at hk
        split at hk
        · rename_i hz ha
          obtain ⟨γ', st', v, h1, h2, h3, h4, h5⟩ := take_sound (P := P) h hz ha hk
          exact val_case (Instr.loadAt t (a.eval x)) γ' st' v w rfl h1 (h2 w (h.toObjs.held _)) h3 h4 (fun m _ => h5.weak)
        · exact hk.elim
      | false => rw [ht] at hk; exact pure_case hk
    · exact pure_case hk
  | alloc t =>
    simp only [stepW] at hk
    split at hk
    · rename_i d z hz
      obtain ⟨v, hv, h2, h3, _⟩ := zero_nil (P := P) (γ := γ) (w := w) hz
      refine new_case d z v.cells t (Instr.alloc t true (.tuple #[])) rfl rfl ?_ h2 h3 hk
      simp only [Instr.alloc, Sem.run_bind, hv, Result.andThen_ok, newVar, newRow, run_newObj, Sem.run_pure]
      rfl
    · exact hk.elim
  | box t x =>
    simp only [stepW] at hk
    split at hk
    · rename_i d
      obtain ⟨vs, h1, h2, h3⟩ := cellsAs_bval (h.rawS x) hk
      refine new_case d vs (a.eval x).cells t (Instr.box t (a.eval x)) rfl rfl ?_ h2 h3 h1
      simp only [Instr.box, Sem.run_bind, newVar, newRow, run_newObj, Result.andThen_ok, Sem.run_pure]
      rfl
    · exact hk.elim
  | store t x y =>
    simp only [stepW] at hk
    obtain ⟨γ', st', w', h1, h2, h3, h4⟩ := store_sound (P := P) h hk
    simp only [Oper.wp, execOp, Sem.run_bind, h2, Result.andThen_ok, Sem.run_pure, Oper.upon_skip]
    exact hn _ _ _ γ' h1 (h3.setQ dst .skip Go.undef rfl (fun _ => Rep.slot .skip)) (hE.trans h4) (fun m hm => by simp [mildOp] at hm)
  | buildSlice t n ps =>
    simp only [stepW] at hk
    split at hk
    · rename_i e he
      split at hk
      · rename_i k z hz hzero
        obtain ⟨γ', st', v, w', h1, h2, h3, h4, h5⟩ := buildSlice_sound (P := P) h he hz hzero hk
        exact val_case _ γ' st' v w' rfl h1 h2 h3 h4 (fun m _ => h5.weak)
      · exact hk.elim
    · exact hk.elim
  | panic x =>
    simp only [stepW] at hk
    have hv := h.val x
    split at hk
    · rename_i t v e
      rw [e] at hv
      generalize hvx : a.eval x = vx at *
      cases hv with
      | iface _ _ v' hv' =>
        have : (execOp a.eval (⟨dst, .panic x, type, pos, after, guard⟩ : Oper)).run P w = .halt (.panic (.iface t v')) w := by
          simp [execOp, hvx, Instr.panic]
        simp only [Oper.wp, this, Oper.upon_panic]
        exact hx _ _ _ _ _ γ hk (.iface t v v' hv') h hE
    · exact hk.elim
  | call c =>
    obtain ⟨callee, args, ts⟩ := c
    cases callee with
    | value f => exact call_sound hP hcall hI0 h hE rfl hk hn hx
    | invoke r m => exact pure_case hk
    | builtin b =>
      cases b with
      | append =>
        simp only [stepW] at hk
        split at hk
        · rename_i x y tx ty hargs hts
          split at hk
          · rename_i e e' he he'
            split at hk
            · rename_i k z i hz hzero hi
              unfold ownV at hk
              split at hk
              · rename_i rows hr
                obtain ⟨γ', st', v, w', h1, h2, h3, h4⟩ := append_sound (P := P) (type := type) h he he' hz hzero hi hr hk
                have e1 : args.map a.eval = #[a.eval x, a.eval y] := by apply Array.ext'; simp [hargs]
                have e2 : ts = #[tx, ty] := by apply Array.ext'; simp [hts]
                simp only [Oper.wp, execOp, resolve, Sem.run_bind, Sem.run_pure, Result.andThen_ok, invoke, builtin, e1, e2, h2, Oper.upon_value]
                exact hn _ _ _ γ' h1 h3 (hE.trans h4) (fun m hm => by simp [mildOp] at hm)
              · exact hk.elim
            · exact hk.elim
          · exact hk.elim
        · exact hk.elim
      | _ => exact pure_case hk
  | _ => exact pure_case hk
end step
end Go.Ev
namespace Go.Ev
open PV
section ops
variable {P : Program} {call : Caller} {γ0 : Gh} {w0 : World}
theorem tmp_get {γ : Gh} {st : St} {a : Act} {w : World} (h : Rel γ st a w) {d : Nat} (hd : d < st.sl.length) : a.tmps[d]? = some (a.tmps.getD d Go.undef) := by
  have : d < a.tmps.size := by rw [h.size]; exact hd
  simp [Array.getD_eq_getD_getElem?, this]
theorem dstAt_eq (ops : Array Oper) (j : Nat) : dstAt ops.toList j = (ops[j]?).bind (·.dst) := by
  unfold dstAt
  rw [Array.getElem?_toList]
  cases ops[j]? <;> rfl
/-- An operation behind its guard. -/
theorem guard_sound (hP : NoNG P) {I0 : Nat → Nat → Option Value} (hcall : CallSound P I0 call) (hI0 : LeI I0 γ0.I) {γ : Gh} {st : St} {a : Act} {w : World} (h : Rel γ st a w) (hE : Ext γ0 w0 γ w) {hint : Hint} {ops : Array Oper} (o : Oper) {K : St → Prop} {X : PV → St → Prop}
    (hk : guardW P call hint ops.toList o st K X) {next : Act → World → Prop} {Q : Exit → Act → World → Prop} (hn : Next2 γ0 w0 γ w o.op K next) (hx : Pan' γ0 w0 X Q) :
    if Region.wanted o (yielded ops a.tmps) then o.wp P a w next Q else next (a.put o.dst Go.undef) w := by
  unfold guardW at hk
  split at hk
  · rename_i hg
    have : Region.wanted o (yielded ops a.tmps) = true := by simp [Region.wanted, hg]
    rw [if_pos this]
    exact step_sound hP hcall hI0 h hE o hk hn hx
  · rename_i j want hg
    have hskip : ∀ st' : St, Rel γ st' a w → K ⟨setD st'.sl o.dst .skip, st'.sg⟩ → next (a.put o.dst Go.undef) w := fun st' h' hk' => hn _ _ _ γ hk' (h'.setQ o.dst .skip Go.undef rfl (fun _ => Rep.slot .skip)) hE (fun m _ => .refl _ _ _)
    split at hk
    · rename_i d hd
      rw [dstAt_eq] at hd
      unfold boolV at hk
      split at hk
      · rename_i b hb
        have hlt := getD_lt hb (by simp)
        have hv : a.tmps.getD d Go.undef = .bool b := by
          have := h.slots d hlt
          rw [hb] at this
          exact isB_inv (I := γ.I) (ob := γ.ob) (p := .bool b) this rfl
        have hy : yielded ops a.tmps j = some b := by
          simp only [yielded, hd, Option.bind_some, tmp_get h hlt, hv]
        have hw : Region.wanted o (yielded ops a.tmps) = (b == want) := by
          simp only [Region.wanted, hg, hy]
          cases b <;> cases want <;> rfl
        have hre : Rel γ ⟨st.sl.set d (.bool b), st.sg⟩ a w := h.reslot d _ (by rw [hv]; exact .bool b)
        rw [hw]
        cases b <;> cases want <;> simp only [bcond] at hk
        · exact step_sound hP hcall hI0 hre hE o hk hn hx
        · exact hskip _ hre hk
        · exact hskip _ hre hk
        · exact step_sound hP hcall hI0 hre hE o hk hn hx
      · rename_i hb
        have hlt := getD_lt hb (by simp)
        have hv : a.tmps.getD d Go.undef = Go.undef := by
          have := h.slots d hlt
          rw [hb] at this
          have this : Rep γ.I γ.ob .skip (a.tmps.getD d Go.undef) := this
          generalize a.tmps.getD d Go.undef = v at *
          cases this; rfl
        have hy : yielded ops a.tmps j = none := by
          simp only [yielded, hd, Option.bind_some, tmp_get h hlt, hv]; rfl
        have hw : Region.wanted o (yielded ops a.tmps) = false := by
          simp only [Region.wanted, hg, hy]
          cases want <;> rfl
        rw [hw]
        exact hskip _ h hk
      · exact hk.elim
    · exact hk.elim
end ops

section any
variable {P : Program} {ops : Array Oper} {Q : Exit → Act → World → Prop}
def wpAnyT (P : Program) (ops : Array Oper) (Q : Exit → Act → World → Prop) (T : Array Bool → World → Prop) : Nat → Array Bool → Act → World → Prop
  | 0, listed, a, w => Region.ready .any ops listed = [] ∧ Q .normal a w
  | fuel + 1, listed, a, w => (Region.ready .any ops listed = [] → Q .normal a w) ∧
    ∀ i ∈ Region.ready .any ops listed, wpOp P ops Q i (fun a' w' => T (listed.setIfInBounds i true) w' ∧ wpAnyT P ops Q T fuel (listed.setIfInBounds i true) a' w') a w
theorem wpAny_of_T {T : Array Bool → World → Prop} : ∀ (fuel : Nat) (listed : Array Bool) (a : Act) (w : World), wpAnyT P ops Q T fuel listed a w → wpAny P .any ops Q fuel listed a w
  | 0, _, _, _, h => h
  | fuel + 1, _, _, _, h => ⟨h.1, fun i hi => wpOp_mono (fun a' w' h' => wpAny_of_T fuel _ a' w' h'.2) (h.2 i hi)⟩
theorem wpAnyT_weak {T T' : Array Bool → World → Prop} : ∀ (fuel : Nat) (listed : Array Bool) (a : Act) (w : World), (∀ (L : Array Bool) (w : World), (∀ k, listed.getD k false = true → L.getD k false = true) → T L w → T' L w) →
    wpAnyT P ops Q T fuel listed a w → wpAnyT P ops Q T' fuel listed a w
  | 0, _, _, _, _, h => h
  | fuel + 1, listed, _, _, hT, h => ⟨h.1, fun i hi => wpOp_mono (fun a' w' h' => ⟨hT _ _ (fun k hk => getD_set_true hk) h'.1, wpAnyT_weak fuel _ a' w' (fun L w hL => hT L w fun k hk => hL k (getD_set_true hk)) h'.2⟩) (h.2 i hi)⟩
def Tof (late : List (Nat × List Nat)) (S : World → Prop) (L : Array Bool) (w : World) : Prop := lateIn late L = false → S w
/-- What has come has come behind what it waits for. -/
def Closed (ops : Array Oper) (listed : Array Bool) : Prop := ∀ k o, ops[k]? = some o → listed.getD k false = true → ∀ e ∈ o.after, Region.binds .any e = true → listed.getD e.on false = true
theorem Closed.set {listed : Array Bool} {j : Nat} (h : Closed ops listed) (hj : j ∈ Region.ready .any ops listed) : Closed ops (listed.setIfInBounds j true) := by
  intro k o hk hl e he hb
  obtain ⟨_, oj, hoj, hall⟩ := mem_ready.1 hj
  by_cases hkj : j = k
  · subst hkj
    rw [hoj] at hk; injection hk with hk; subst hk
    exact getD_set_true (hall e he hb)
  · rw [getD_set_ne false hkj] at hl
    exact getD_set_true (h k o hk hl e he hb)
theorem pre_listed {listed : Array Bool} (h : Closed ops listed) : ∀ (pre seen : List Nat), preOk ops seen pre = true → (∀ y ∈ seen, ∀ o, ops[y]? = some o → ∀ e ∈ o.after, Region.binds .any e = true → listed.getD e.on false = true) →
    ∀ x ∈ pre, listed.getD x false = true
  | [], _, _, _, x, hx => by cases hx
  | p :: pre, seen, hp, hs, x, hx => by
    simp only [preOk, Bool.and_eq_true, List.any_eq_true] at hp
    obtain ⟨⟨y, hy, h1⟩, h2⟩ := hp
    have hpl : listed.getD p false = true := by
      cases hoy : ops[y]? with
      | none => rw [hoy] at h1; cases h1
      | some o =>
        rw [hoy] at h1
        obtain ⟨e, he, hb⟩ := Array.any_eq_true'.1 h1
        simp only [Bool.and_eq_true, beq_iff_eq] at hb
        have := hs y hy o hoy e he hb.1
        rwa [hb.2] at this
    rcases List.mem_cons.1 hx with rfl | hx
    · exact hpl
    · exact pre_listed h pre (p :: seen) h2 (fun y hy => by
        rcases List.mem_cons.1 hy with rfl | hy
        · exact fun o ho e he hb => h y o ho hpl e he hb
        · exact hs y hy) x hx
theorem lateIn_set {late : List (Nat × List Nat)} {L : Array Bool} {i : Nat} (hi : ∀ j ∈ late, j.1 ≠ i) : lateIn late (L.setIfInBounds i true) = lateIn late L := by
  unfold lateIn
  rw [Bool.eq_iff_iff]
  simp only [List.any_eq_true]
  constructor
  · rintro ⟨j, hj, h⟩
    exact ⟨j, hj, by rwa [getD_set_ne false (fun e => hi j hj e.symm)] at h⟩
  · rintro ⟨j, hj, h⟩
    exact ⟨j, hj, getD_set_true h⟩
theorem wpAnyT_first {S : World → Prop} {late : List (Nat × List Nat)} {i : Nat} {oi : Oper} {v : Value} (hi : ops[i]? = some oi) (hsel : ∀ (j : Nat) (o : Oper) cs b, ops[j]? = some o → o.op ≠ .select cs b)
    (hQ : ∀ c a w, Q (.panic c) (a.put oi.dst v) w → Q (.panic c) a w) (hlate : ∀ j ∈ late, preOk ops [j.1] j.2 = true ∧ i ∈ j.2) :
    ∀ (fuel : Nat) (listed : Array Bool) (a : Act) (w : World), Closed ops listed →
      (∀ j oj, ops[j]? = some oj → j ≠ i → listed.getD j true = false → (∀ e ∈ oj.after, Region.binds .any e = true → e.on ≠ i) → oi.apart ops oj = true) →
      i ∈ Region.ready .any ops listed → lateIn late listed = false → YieldsIf P ops S oi v a → S w →
      wpAnyT P ops Q (Tof late S) fuel (listed.setIfInBounds i true) (a.put oi.dst v) w → wpAnyT P ops Q (Tof late S) (fuel + 1) listed a w := by
  have hun : ∀ (listed : Array Bool), i ∈ Region.ready .any ops listed → ∀ k, k ∈ Region.ready .any ops listed → ∀ ok, ops[k]? = some ok → ∀ e ∈ ok.after, Region.binds .any e = true → e.on ≠ i := by
    intro listed hr k hk ok hok e he hb heq
    obtain ⟨_, o', ho', hall⟩ := mem_ready.1 hk
    rw [hok] at ho'; injection ho' with ho'; subst ho'
    have h1 := hall e he hb
    have h0 := (mem_ready.1 hr).1
    rw [heq] at h1
    rcases Nat.lt_or_ge i listed.size with h' | h'
    · simp [h'] at h0 h1; rw [h0] at h1; cases h1
    · simp [Array.getElem?_eq_none h'] at h1
  have hnl : ∀ (listed : Array Bool), Closed ops listed → i ∈ Region.ready .any ops listed → ∀ k, k ∈ Region.ready .any ops listed → ∀ j ∈ late, j.1 ≠ k := by
    intro listed hcl hr k hk j hj e
    subst e
    obtain ⟨hp, hi⟩ := hlate j hj
    obtain ⟨_, o, ho, hall⟩ := mem_ready.1 hk
    have h1 := pre_listed hcl j.2 [j.1] hp (fun y hy => by
      have : y = j.1 := by simpa using hy
      subst this
      intro o' ho' e he hb
      rw [ho] at ho'; injection ho' with ho'; subst ho'
      exact hall e he hb) i hi
    have h0 := (mem_ready.1 hr).1
    rcases Nat.lt_or_ge i listed.size with h' | h'
    · simp [h'] at h0 h1; rw [h0] at h1; cases h1
    · simp [Array.getElem?_eq_none h'] at h1
  intro fuel
  induction fuel with
  | zero =>
    intro listed a w hcl hfree hr hl hy hS H
    refine ⟨fun h => (by rw [h] at hr; cases hr), fun j hj => ?_⟩
    by_cases hji : j = i
    · subst hji; exact hy.wpOp hi hS ⟨fun _ => hS, H⟩
    · have := ready_mono hj hji
      rw [H.1] at this
      cases this
  | succ fuel ih =>
    intro listed a w hcl hfree hr hl hy hS H
    refine ⟨fun h => (by rw [h] at hr; cases hr), fun j hj => ?_⟩
    by_cases hji : j = i
    · subst hji; exact hy.wpOp hi hS ⟨fun _ => hS, H⟩
    · have h1 := H.2 j (ready_mono hj hji)
      obtain ⟨hjun, oj, hoj, hall⟩ := mem_ready.1 hj
      have hnot := hun listed hr j hj oj hoj
      have h2 := wpOp_putIf hoj (hfree j oj hoj hji hjun hnot) (fun cs b => hsel i oi cs b hi) (fun cs b => hsel j oj cs b hoj) hQ hy h1
      have hfree' : ∀ k ok, ops[k]? = some ok → k ≠ i → (listed.setIfInBounds j true).getD k true = false →
          (∀ e ∈ ok.after, Region.binds .any e = true → e.on ≠ i) → oi.apart ops ok = true := fun k ok hk hki hun' hno => by
        refine hfree k ok hk hki ?_ hno
        by_cases hjk : j = k
        · subst hjk; exact hjun
        · rw [getD_set_ne true hjk] at hun'; exact hun'
      have hl' : lateIn late (listed.setIfInBounds j true) = false := by rw [lateIn_set (hnl listed hcl hr j hj)]; exact hl
      have hl2 : lateIn late ((listed.setIfInBounds i true).setIfInBounds j true) = false := by rw [lateIn_set (hnl listed hcl hr j hj), lateIn_set (hnl listed hcl hr i hr)]; exact hl
      refine wpOp_mono (fun a' w' h3 => ⟨fun _ => h3.2.1 hl2, ih (listed.setIfInBounds j true) a' w' (hcl.set hj) hfree' (ready_mono hr (Ne.symm hji)) hl' h3.1 (h3.2.1 hl2) ?_⟩) h2
      rw [Array.setIfInBounds_comm _ _ hji]
      exact h3.2.2
end any
/-- Taken first: an operation that reads no memory. -/
theorem any_free {P : Program} {ops : Array Oper} {Q : Exit → Act → World → Prop} {S : World → Prop} {late : List (Nat × List Nat)} {i : Nat} {oi : Oper} {v : Value} (hi : ops[i]? = some oi) (hsel : ∀ (j : Nat) (o : Oper) cs b, ops[j]? = some o → o.op ≠ .select cs b)
    (hQ : ∀ c a w, Q (.panic c) (a.put oi.dst v) w → Q (.panic c) a w) (hnl : ∀ j ∈ late, j.1 ≠ i) :
    ∀ (fuel : Nat) (listed : Array Bool) (a : Act) (w : World),
      (∀ j oj, ops[j]? = some oj → j ≠ i → listed.getD j true = false → (∀ e ∈ oj.after, Region.binds .any e = true → e.on ≠ i) → oi.apart ops oj = true) →
      i ∈ Region.ready .any ops listed → YieldsIf P ops (fun _ => True) oi v a → Tof late S listed w →
      wpAnyT P ops Q (Tof late S) fuel (listed.setIfInBounds i true) (a.put oi.dst v) w → wpAnyT P ops Q (Tof late S) (fuel + 1) listed a w := by
  have hun : ∀ (listed : Array Bool), i ∈ Region.ready .any ops listed → ∀ k, k ∈ Region.ready .any ops listed → ∀ ok, ops[k]? = some ok → ∀ e ∈ ok.after, Region.binds .any e = true → e.on ≠ i := by
    intro listed hr k hk ok hok e he hb heq
    obtain ⟨_, o', ho', hall⟩ := mem_ready.1 hk
    rw [hok] at ho'; injection ho' with ho'; subst ho'
    have h1 := hall e he hb
    have h0 := (mem_ready.1 hr).1
    rw [heq] at h1
    rcases Nat.lt_or_ge i listed.size with h' | h'
    · simp [h'] at h0 h1; rw [h0] at h1; cases h1
    · simp [Array.getElem?_eq_none h'] at h1
  intro fuel
  induction fuel with
  | zero =>
    intro listed a w hfree hr hy hT H
    refine ⟨fun h => (by rw [h] at hr; cases hr), fun j hj => ?_⟩
    by_cases hji : j = i
    · subst hji; exact hy.wpOp hi trivial ⟨fun hl => hT (by rw [lateIn_set hnl] at hl; exact hl), H⟩
    · have := ready_mono hj hji
      rw [H.1] at this
      cases this
  | succ fuel ih =>
    intro listed a w hfree hr hy hT H
    refine ⟨fun h => (by rw [h] at hr; cases hr), fun j hj => ?_⟩
    by_cases hji : j = i
    · subst hji; exact hy.wpOp hi trivial ⟨fun hl => hT (by rw [lateIn_set hnl] at hl; exact hl), H⟩
    · have h1 := H.2 j (ready_mono hj hji)
      obtain ⟨hjun, oj, hoj, hall⟩ := mem_ready.1 hj
      have hnot := hun listed hr j hj oj hoj
      have h2 := wpOp_putIf hoj (hfree j oj hoj hji hjun hnot) (fun cs b => hsel i oi cs b hi) (fun cs b => hsel j oj cs b hoj) hQ hy h1
      have hfree' : ∀ k ok, ops[k]? = some ok → k ≠ i → (listed.setIfInBounds j true).getD k true = false →
          (∀ e ∈ ok.after, Region.binds .any e = true → e.on ≠ i) → oi.apart ops ok = true := fun k ok hk hki hun' hno => by
        refine hfree k ok hk hki ?_ hno
        by_cases hjk : j = k
        · subst hjk; exact hjun
        · rw [getD_set_ne true hjk] at hun'; exact hun'
      have hTj : ∀ w', Tof late S ((listed.setIfInBounds i true).setIfInBounds j true) w' → Tof late S (listed.setIfInBounds j true) w' := fun w' h hl => h (by
        rw [Array.setIfInBounds_comm _ _ (fun e => hji e.symm), lateIn_set hnl]; exact hl)
      refine wpOp_mono (fun a' w' h3 => ⟨hTj w' h3.2.1, ih (listed.setIfInBounds j true) a' w' hfree' (ready_mono hr (Ne.symm hji)) h3.1 (hTj w' h3.2.1) ?_⟩) h2
      rw [Array.setIfInBounds_comm _ _ hji]
      exact h3.2.2
/-- A part of the code ends by a panic whatever stands in the slots. -/
def Blind (Q : Exit → Act → World → Prop) : Prop := ∀ c (a : Act) (d : Option Tmp) v w, Q (.panic c) (a.put d v) w → Q (.panic c) a w
section draw
variable {P : Program} {call : Caller} {γ0 : Gh} {w0 : World}
theorem readW_sound {m : Bool} {γ : Gh} {st : St} {a : Act} {w : World} (h : Rel γ st a w) {hint : Hint} (o : Oper) {K : St → Prop} (hk : readW P hint m o st K) :
    ∃ γ' st' v, K st' ∧ (∀ w', (isLoadOp o.op = true → Held m γ w w') → (execOp a.eval o).run P w' = .ok (.value v) w') ∧ Rel γ' st' (a.put o.dst v) w ∧ Ext γ w γ' w ∧ Mild true γ w γ' w := by
  have pure_case : pureW P st.sl (osg m st) o.type o.op (fun v => K ⟨setD st.sl o.dst v, st.sg⟩) → ∃ γ' st' v, K st' ∧ (∀ w', (isLoadOp o.op = true → Held m γ w w') → (execOp a.eval o).run P w' = .ok (.value v) w') ∧ Rel γ' st' (a.put o.dst v) w ∧ Ext γ w γ' w ∧ Mild true γ w γ' w := by
    intro hk
    obtain ⟨p, v, h1, h2, h3, h4⟩ := pure_sound m h o hk
    exact ⟨γ, _, v, h1, h2, h.setQ o.dst p v h3 h4, .refl _ _, .refl _ _ _⟩
  obtain ⟨dst, op, type, pos, after, guard⟩ := o
  cases op with
  | assign x =>
    obtain ⟨γ', h1, h2, h3⟩ := assign_sound h x dst
    exact ⟨γ', _, a.eval x, hk, fun _ _ => rfl, h1, h2, h3⟩
  | move x =>
    simp only [readW] at hk
    split at hk
    · rename_i d
      cases ht : hint.tk.contains d with
      | true =>
        rw [ht] at hk
        obtain ⟨γ', h1, h2, h3⟩ := assign_sound h x (some d)
        exact ⟨γ', _, a.eval x, hk, fun _ _ => rfl, h1, h2, h3⟩
      | false => rw [ht] at hk; exact pure_case hk
    · exact pure_case hk
  | load t x =>
    simp only [readW] at hk
    split at hk
    · rename_i d
      cases ht : hint.tk.contains d with
      | true =>
        rw [ht] at hk
        simp only [bcond] at hk
        split at hk
        · rename_i hz ha
          obtain ⟨hp, hk⟩ := chk_iff.mp hk
          obtain ⟨γ', st', v, h1, h2, h3, h4, h5⟩ := take_sound (P := P) h hz ha hk
          simp only [Bool.not_eq_true'] at hp
          rw [hp] at h2
          refine ⟨γ', st', v, h1, fun w' hw' => ?_, h3, h4, h5⟩
          have hw' := hw' rfl
          have hw2 : Held false γ w w' := ⟨hw'.imm, fun b t hb ht => hw'.box b t hb (by cases t <;> simp [boxTag] at ht ⊢)⟩
          simp [execOp, h2 w' hw2]
        · exact hk.elim
      | false => rw [ht] at hk; exact pure_case hk
    · exact pure_case hk
  | _ => exact pure_case hk
theorem guardR_sound {m : Bool} {γ : Gh} {st : St} {a : Act} {w : World} (h : Rel γ st a w) {hint : Hint} {ops : Array Oper} (o : Oper) {K : St → Prop} (hk : guardR P hint m ops.toList o st K) :
    ∃ γ' st' v, K st' ∧ YieldsIf P ops (fun w' => isLoadOp o.op = true → Held m γ w w') o v a ∧ Rel γ' st' (a.put o.dst v) w ∧ Ext γ w γ' w ∧ Mild true γ w γ' w := by
  unfold guardR at hk
  split at hk
  · rename_i hg
    have : Region.wanted o (yielded ops a.tmps) = true := by simp [Region.wanted, hg]
    obtain ⟨γ', st', v, h1, h2, h3⟩ := readW_sound h o hk
    exact ⟨γ', st', v, h1, .inl ⟨this, h2⟩, h3⟩
  · rename_i j want hg
    split at hk
    · rename_i d hd
      rw [dstAt_eq] at hd
      have hskip : ∀ st' : St, Rel γ st' a w → K ⟨setD st'.sl o.dst .skip, st'.sg⟩ → Region.wanted o (yielded ops a.tmps) = false →
          ∃ γ' st' v, K st' ∧ YieldsIf P ops (fun w' => isLoadOp o.op = true → Held m γ w w') o v a ∧ Rel γ' st' (a.put o.dst v) w ∧ Ext γ w γ' w ∧ Mild true γ w γ' w := fun st' h' hk' hw =>
        ⟨γ, _, Go.undef, hk', .inr ⟨hw, rfl⟩, h'.setQ o.dst .skip Go.undef rfl (fun _ => Rep.slot .skip), .refl _ _, .refl _ _ _⟩
      unfold boolV at hk
      split at hk
      · rename_i b hb
        have hlt := getD_lt hb (by simp)
        have hv : a.tmps.getD d Go.undef = .bool b := by
          have := h.slots d hlt
          rw [hb] at this
          exact isB_inv (I := γ.I) (ob := γ.ob) (p := .bool b) this rfl
        have hy : yielded ops a.tmps j = some b := by
          simp only [yielded, hd, Option.bind_some, tmp_get h hlt, hv]
        have hw : Region.wanted o (yielded ops a.tmps) = (b == want) := by
          simp only [Region.wanted, hg, hy]
          cases b <;> cases want <;> rfl
        have hre : Rel γ ⟨st.sl.set d (.bool b), st.sg⟩ a w := h.reslot d _ (by rw [hv]; exact .bool b)
        have hread : readW P hint m o ⟨st.sl.set d (.bool b), st.sg⟩ K → (b == want) = true → ∃ γ' st' v, K st' ∧ YieldsIf P ops (fun w' => isLoadOp o.op = true → Held m γ w w') o v a ∧ Rel γ' st' (a.put o.dst v) w ∧ Ext γ w γ' w ∧ Mild true γ w γ' w := by
          intro hk hbw
          obtain ⟨γ', st', v, h1, h2, h3⟩ := readW_sound hre o hk
          exact ⟨γ', st', v, h1, .inl ⟨hw.trans hbw, h2⟩, h3⟩
        cases b <;> cases want <;> simp only [bcond] at hk
        · exact hread hk rfl
        · exact hskip _ hre hk (hw.trans rfl)
        · exact hskip _ hre hk (hw.trans rfl)
        · exact hread hk rfl
      · rename_i hb
        have hlt := getD_lt hb (by simp)
        have hv : a.tmps.getD d Go.undef = Go.undef := by
          have := h.slots d hlt
          rw [hb] at this
          have this : Rep γ.I γ.ob .skip (a.tmps.getD d Go.undef) := this
          generalize a.tmps.getD d Go.undef = v at *
          cases this; rfl
        have hy : yielded ops a.tmps j = none := by
          simp only [yielded, hd, Option.bind_some, tmp_get h hlt, hv]; rfl
        refine hskip _ h hk ?_
        simp only [Region.wanted, hg, hy]
        cases want <;> rfl
      · exact hk.elim
    · exact hk.elim
theorem act_sound (hP : NoNG P) {I0 : Nat → Nat → Option Value} (hcall : CallSound P I0 call) (hI0 : LeI I0 γ0.I) {hint : Hint} {ops : Array Oper} {late : List (Nat × List Nat)} {X : PV → St → Prop} {Q : Exit → Act → World → Prop} (hx : Pan' γ0 w0 X Q) {K : St → Prop} {m : Bool} {listed : Array Bool} {st : St} {a : Act} {w : World} {γ : Gh} {i n : Nat} {o : Oper}
    (ho : ops[i]? = some o) (hi : i ∈ Region.ready .any ops listed) (hact : actOk ops late m i = true) (hk : guardW P call hint ops.toList o st K X) (h : Rel γ st a w) (hE : Ext γ0 w0 γ w)
    (hrec : ∀ st' a' w' γ', K st' → Rel γ' st' a' w' → Ext γ0 w0 γ' w' → wpAnyT P ops Q (Tof late (Held m γ' w')) n (listed.setIfInBounds i true) a' w') :
    wpOp P ops Q i (fun a' w' => Tof late (Held m γ w) (listed.setIfInBounds i true) w' ∧ wpAnyT P ops Q (Tof late (Held m γ w)) n (listed.setIfInBounds i true) a' w') a w := by
  have hml : (late.any fun j => j.1 == i) = true ∨ mildOp m o.op = true := by
    unfold actOk at hact
    rw [ho] at hact
    simpa using hact
  have hg := guard_sound (ops := ops) (K := K) (X := X)
    (next := fun a' w' => Tof late (Held m γ w) (listed.setIfInBounds i true) w' ∧ wpAnyT P ops Q (Tof late (Held m γ w)) n (listed.setIfInBounds i true) a' w') hP hcall hI0 h hE o hk
    (fun st' a' w' γ' hk' h' hE' hM => by
      have hrec := hrec st' a' w' γ' hk' h' hE'
      have hin : (late.any fun j => j.1 == i) = true → ∀ L : Array Bool, (∀ k, (listed.setIfInBounds i true).getD k false = true → L.getD k false = true) → lateIn late L = true := by
        intro hl L hL
        unfold lateIn
        rw [List.any_eq_true] at hl ⊢
        obtain ⟨j, hj, he⟩ := hl
        have he : j.1 = i := by simpa using he
        refine ⟨j, hj, ?_⟩
        rw [he]
        refine hL i ?_
        have h0 := (mem_ready.1 hi).1
        have hlt : i < listed.size := by
          rcases Nat.lt_or_ge i listed.size with h' | h'
          · exact h'
          · simp [Array.getElem?_eq_none h'] at h0
        simp [hlt]
      refine ⟨fun hl => ?_, wpAnyT_weak _ _ _ _ (fun L w2 hL hT hl => ?_) hrec⟩
      · rcases hml with hml | hml
        · rw [hin hml _ (fun k hk => hk)] at hl; cases hl
        · exact (hM m hml).held h'.toObjs
      · rcases hml with hml | hml
        · rw [hin hml L hL] at hl; cases hl
        · exact (hM m hml).heldTrans (hT hl)) hx
  unfold wpOp
  rw [ho]
  simp only
  split at hg
  · rename_i hw; rw [if_pos hw]; exact .inl hg
  · rename_i hw; rw [if_neg hw]; exact hg
theorem ord_sound (hP : NoNG P) {I0 : Nat → Nat → Option Value} (hcall : CallSound P I0 call) (hI0 : LeI I0 γ0.I) {hint : Hint} {ops : Array Oper} {late : List (Nat × List Nat)} {X : PV → St → Prop} {Q : Exit → Act → World → Prop} (hB : Blind Q) (hs : Region.noSelect ops = true) (hpre : ∀ j ∈ late, preOk ops [j.1] j.2 = true) (hx : Pan' γ0 w0 X Q) {K : St → Prop} (hn : Next' γ0 w0 K (Q .normal)) :
    ∀ (r : OT) (n : Nat) (m : Bool) (listed : Array Bool) (st : St) (a : Act) (w : World) (γ : Gh), r.len n = true → Closed ops listed → drawOk ops late m r listed = true → ordW P call hint ops m r st K X → Rel γ st a w → Ext γ0 w0 γ w →
      wpAnyT P ops Q (Tof late (Held m γ w)) n listed a w
  | .done, n + 1, m, listed, st, a, w, γ, hlen, hcl, hd, hk, h, hE => by cases hlen
  | .done, 0, m, listed, st, a, w, γ, hlen, hcl, hd, hk, h, hE => by
    refine ⟨?_, hn st a w γ hk h hE⟩
    unfold drawOk at hd
    split at hd
    · assumption
    · cases hd
  | .step i f r, 0, m, listed, st, a, w, γ, hlen, hcl, hd, hk, h, hE => by cases hlen
  | .fork i x j y, 0, m, listed, st, a, w, γ, hlen, hcl, hd, hk, h, hE => by cases hlen
  | .fork i x j y, n + 1, m, listed, st, a, w, γ, hlen, hcl, hd, hk, h, hE => by
    unfold OT.len at hlen
    simp only [Bool.and_eq_true] at hlen
    unfold drawOk at hd
    unfold ordW at hk
    simp only [forceL_eq] at hk
    split at hd
    · rename_i x' y' hr
      simp only [Bool.and_eq_true, beq_iff_eq] at hd
      obtain ⟨rfl, rfl, ha1, ha2, hd1, hd2⟩ := hd
      split at hk
      · rename_i o o' ho ho'
        obtain ⟨hk1, hk2⟩ := hk
        have hm1 : x' ∈ Region.ready .any ops listed := by rw [hr]; simp
        have hm2 : y' ∈ Region.ready .any ops listed := by rw [hr]; simp
        refine ⟨fun e => absurd (hr.symm.trans e) (by simp), fun i hi => ?_⟩
        rw [hr] at hi
        have hi : i = x' ∨ i = y' := by simpa using hi
        rcases hi with rfl | rfl
        · exact act_sound hP hcall hI0 hx ho hm1 ha1 hk1 h hE (fun st' a' w' γ' hk' h' hE' => ord_sound hP hcall hI0 hB hs hpre hx hn x n m _ st' a' w' γ' hlen.1 (hcl.set hm1) hd1 hk' h' hE')
        · exact act_sound hP hcall hI0 hx ho' hm2 ha2 hk2 h hE (fun st' a' w' γ' hk' h' hE' => ord_sound hP hcall hI0 hB hs hpre hx hn y n m _ st' a' w' γ' hlen.2 (hcl.set hm2) hd2 hk' h' hE')
      · exact hk.elim
    · cases hd
  | .step i f r, n + 1, m, listed, st, a, w, γ, hlen, hcl, hd, hk, h, hE => by
    unfold OT.len at hlen
    unfold drawOk at hd
    unfold ordW at hk
    simp only [forceL_eq] at hk
    cases ho : ops[i]? with
    | none => rw [ho] at hd; cases hd
    | some o =>
      rw [ho] at hd hk
      simp only at hd hk
      cases hf : f == 0 with
      | true =>
        rw [hf] at hd hk
        simp only [bcond] at hd hk
        split at hd
        · rename_i j hr
          simp only [Bool.and_eq_true, beq_iff_eq] at hd
          obtain ⟨rfl, hact, hd⟩ := hd
          have hm1 : j ∈ Region.ready .any ops listed := by rw [hr]; simp
          refine ⟨fun e => absurd (hr.symm.trans e) (by simp), fun i hi => ?_⟩
          rw [hr] at hi
          have : i = j := by simpa using hi
          subst this
          exact act_sound hP hcall hI0 hx ho hm1 hact hk h hE (fun st' a' w' γ' hk' h' hE' => ord_sound hP hcall hI0 hB hs hpre hx hn r n m _ st' a' w' γ' hlen (hcl.set hm1) hd hk' h' hE')
        · cases hd
      | false =>
        rw [hf] at hd hk
        simp only [bcond, Bool.and_eq_true] at hd hk
        obtain ⟨hfree, hcon, hc, hd⟩ := hd
        have hm1 : i ∈ Region.ready .any ops listed := by simpa using hcon
        obtain ⟨γ', st', v, k1, k2, k3, k4, k5⟩ := guardR_sound (m := m || f == 2) h o hk
        have hrec := ord_sound hP hcall hI0 hB hs hpre hx hn r n (m || f == 2) (listed.setIfInBounds i true) st' (a.put o.dst v) w γ' hlen (hcl.set hm1) hd k1 k3 (hE.trans k4)
        have h1 : wpAnyT P ops Q (Tof late (Held (m || f == 2) γ w)) n (listed.setIfInBounds i true) (a.put o.dst v) w :=
          wpAnyT_weak _ _ _ _ (fun L w2 hL hT hl => (Mild.weak k5).heldTrans (hT hl)) hrec
        have h2 : wpAnyT P ops Q (Tof late (Held (m || f == 2) γ w)) (n + 1) listed a w := by
          cases h3 : f == 3 with
          | true =>
            rw [h3] at hc
            simp only [Bool.and_eq_true, Bool.not_eq_true'] at hc
            obtain ⟨hc1, hc2⟩ := hc
            refine any_free ho (Region.noSelect_spec hs) (fun c a w hq => hB c a _ _ w hq) (fun j hj e => ?_) n listed a w (Region.free_spec ho hfree) hm1 (k2.imp (fun hw => ⟨hw.1, fun w' _ => hw.2 w' (fun hl => by rw [hc2] at hl; cases hl)⟩) id) (fun _ => h.toObjs.held _) h1
            have : (late.any fun j => j.1 == i) = true := List.any_eq_true.2 ⟨j, hj, by simp [e]⟩
            rw [this] at hc1; cases hc1
          | false =>
            rw [h3] at hc
            simp only [Bool.and_eq_true, Bool.not_eq_true'] at hc
            obtain ⟨hl, hla⟩ := hc
            exact wpAnyT_first (S := Held (m || f == 2) γ w) ho (Region.noSelect_spec hs) (fun c a w hq => hB c a _ _ w hq) (fun j hj => ⟨hpre j hj, by simp only [List.all_eq_true] at hla; simpa using hla j hj⟩) n listed a w hcl (Region.free_spec ho hfree) hm1 hl
              (k2.imp (fun hw => ⟨hw.1, fun w' hw' => hw.2 w' (fun _ => hw')⟩) id) (h.toObjs.held _) h1
        refine wpAnyT_weak _ _ _ _ (fun L w2 hL hT hl => ?_) h2
        have := hT hl
        cases m with
        | true => simpa using this
        | false => exact ⟨this.imm, fun b t hb ht => this.box b t hb (by cases t <;> simp [boxTag] at ht ⊢)⟩
theorem draw_sound (hP : NoNG P) {I0 : Nat → Nat → Option Value} (hcall : CallSound P I0 call) (hI0 : LeI I0 γ0.I) {hint : Hint} {id : Nat} {ops : Array Oper} {X : PV → St → Prop} {Q : Exit → Act → World → Prop} (hB : Blind Q) (hx : Pan' γ0 w0 X Q) {K : St → Prop} (hn : Next' γ0 w0 K (Q .normal))
    {st : St} {a : Act} {w : World} {γ : Gh} (hk : drawW P call hint id ops st K X) (h : Rel γ st a w) (hE : Ext γ0 w0 γ w) : (Code.region id ops true).wp P Q a w := by
  unfold drawW at hk
  split at hk
  · rename_i ord late he
    obtain ⟨h1, hk⟩ := chk_iff.mp hk
    simp only [Bool.and_eq_true] at h1
    obtain ⟨hs, hlen, hpre, hd⟩ := h1
    refine wp_region_any hP.mix (wpAny_of_T (T := Tof late (Held false γ { w with drawn := w.drawn + 1 })) _ _ _ _ ?_)
    refine ord_sound hP hcall hI0 hB hs (by simpa using hpre) hx hn ord _ false _ st a _ γ hlen (fun k o hk hl => by
      simp only [Array.getD_eq_getD_getElem?, Array.getElem?_replicate] at hl
      split at hl <;> cases hl) hd hk (h.world rfl) ⟨hE.size, hE.leI, hE.leO, hE.D, hE.io, fun b hb hg => hE.keep b hb hg⟩
  · exact hk.elim
end draw
end Go.Ev
namespace Go.Ev
open PV
section ops
variable {P : Program} {call : Caller} {γ0 : Gh} {w0 : World}
theorem ops_sound (hP : NoNG P) {I0 : Nat → Nat → Option Value} (hcall : CallSound P I0 call) (hI0 : LeI I0 γ0.I) {hint : Hint} {ops : Array Oper} {X : PV → St → Prop} {Q : Exit → Act → World → Prop} (hx : Pan' γ0 w0 X Q) {K : St → Prop} (hn : Next' γ0 w0 K (Q .normal)) :
    ∀ (r : List Oper) (i : Nat) (st : St) (a : Act) (w : World) (γ : Gh), ops.toList.drop i = r → opsW P call hint ops.toList r st K X → Rel γ st a w → Ext γ0 w0 γ w → wpOps P ops Q (List.range' i r.length) a w
  | [], i, st, a, w, γ, hr, hk, h, hE => hn st a w γ hk h hE
  | o :: r, i, st, a, w, γ, hr, hk, h, hE => by
    have ho : ops[i]? = some o := by
      rw [← Array.getElem?_toList]
      have := congrArg (fun l => l[0]?) hr
      simpa using this
    have hr' : ops.toList.drop (i + 1) = r := by
      have := congrArg List.tail hr
      simpa using this
    simp only [List.length_cons, List.range'_succ, wpOps, ho]
    simp only [opsW, forceL_eq] at hk
    have hg := guard_sound (K := fun st' => opsW P call hint ops.toList r st' K X) (X := X) (next := wpOps P ops Q (List.range' (i + 1) r.length)) hP hcall hI0 h hE o hk
      (fun st' a' w' γ' hk' h' hE' _ => ops_sound hP hcall hI0 hx hn r (i + 1) st' a' w' γ' hr' hk' h' hE') hx
    split at hg
    · rename_i hw; rw [if_pos hw]; exact .inl hg
    · rename_i hw; rw [if_neg hw]; exact hg
theorem clear_sound {γ : Gh} {a : Act} {w : World} : ∀ (clr : List Nat) (st : St), Rel γ st a w → Rel γ ⟨clear clr st.sl, st.sg⟩ a w
  | [], st, h => h
  | d :: clr, st, h => by
    have := clear_sound clr ⟨st.sl.set d .undef, st.sg⟩ (h.reslot d .undef (.undef _))
    exact this
/-- How a part of the code ends. -/
def ExQ (γ : Gh) (Q : Exit → Act → World → Prop) (a : Act) (w : World) : Ex → Prop
  | .normal => Q .normal a w
  | .exit id => Q (.exit id) a w
  | .ret => Q .ret a w
  | .pan p => ∀ v, Rep γ.I γ.ob p v → Q (.panic [{ v := v, recovered := false }]) a w
def Cont' (γ0 : Gh) (w0 : World) (K : Cont) (Q : Exit → Act → World → Prop) : Prop := ∀ e st a w γ, K e st → Rel γ st a w → Ext γ0 w0 γ w → ExQ γ Q a w e
theorem ex_least {p : Nat → Prop} (h : ∃ m, p m) : ∃ m, p m ∧ ∀ k, p k → m ≤ k := by
  obtain ⟨m, hm⟩ := h
  induction m using Nat.strongRecOn with
  | _ m ih =>
    by_cases hk : ∃ k, k < m ∧ p k
    · obtain ⟨k, h1, h2⟩ := hk; exact ih k h1 h2
    · exact ⟨m, hm, fun k hp => Nat.le_of_not_lt fun hlt => hk ⟨k, hlt, hp⟩⟩
open Classical in
noncomputable def least (G : Nat → Act → World → Prop) (a : Act) (w : World) : Nat := if h : ∃ m, G m a w then Classical.choose (ex_least (p := fun m => G m a w) h) else 0
theorem loop_sound {n : Nat} {c : Code} {body : St → Cont → Prop} {K : Cont} {Q : Exit → Act → World → Prop} (hK : Cont' γ0 w0 K Q) (hB : Blind Q)
    (hb : ∀ (st : St) (K' : Cont) (Q' : Exit → Act → World → Prop) (a : Act) (w : World) (γ : Gh), body st K' → Rel γ st a w → Ext γ0 w0 γ w → Cont' γ0 w0 K' Q' → Blind Q' → c.wp P Q' a w)
    {st : St} {a : Act} {w : World} {γ : Gh} (hk : loopW body n st K) (h : Rel γ st a w) (hE : Ext γ0 w0 γ w) : (Code.loop c).wp P Q a w := by
  let G : Nat → Act → World → Prop := fun m a w => ∃ st γ, loopW body m st K ∧ Rel γ st a w ∧ Ext γ0 w0 γ w
  refine wp_loop (fun a w => ∃ m, G m a w) (least G) ⟨n, st, γ, hk, h, hE⟩ ?_
  intro a w hI
  have hfind : G (least G a w) a w := by
    unfold least
    rw [dif_pos hI]
    exact (Classical.choose_spec (ex_least (p := fun m => G m a w) hI)).1
  obtain ⟨st, γ, hk, h, hE⟩ := hfind
  generalize hm : least G a w = m at hk ⊢
  cases m with
  | zero => exact hk.elim
  | succ m =>
    refine hb st _ _ a w γ hk h hE ?_ (fun c a d v w hq => hB c a d v w hq)
    intro e st' a' w' γ' hk' h' hE'
    cases e with
    | normal =>
      have hG : G m a' w' := ⟨st', γ', hk', h', hE'⟩
      refine ⟨⟨m, hG⟩, ?_⟩
      have : least G a' w' ≤ m := by
        unfold least
        rw [dif_pos ⟨m, hG⟩]
        exact (Classical.choose_spec (ex_least (p := fun m => G m a' w') ⟨m, hG⟩)).2 m hG
      omega
    | exit id => exact hK _ _ _ _ _ hk' h' hE'
    | ret => exact hK _ _ _ _ _ hk' h' hE'
    | pan v => exact hK _ _ _ _ _ hk' h' hE'
theorem code_sound (hP : NoNG P) {I0 : Nat → Nat → Option Value} (hcall : CallSound P I0 call) (hI0 : LeI I0 γ0.I) {n : Nat} {hint : Hint} : ∀ (c : Code) (st : St) (K : Cont) (Q : Exit → Act → World → Prop) (a : Act) (w : World) (γ : Gh),
    codeW P call n hint c st K → Rel γ st a w → Ext γ0 w0 γ w → Cont' γ0 w0 K Q → Blind Q → c.wp P Q a w
  | .skip, st, K, Q, a, w, γ, hk, h, hE, hK, hB => wp_skip (hK _ _ _ _ _ hk h hE)
  | .label _, st, K, Q, a, w, γ, hk, h, hE, hK, hB => wp_label (hK _ _ _ _ _ hk h hE)
  | .ret, st, K, Q, a, w, γ, hk, h, hE, hK, hB => wp_ret (hK _ _ _ _ _ hk h hE)
  | .exit id, st, K, Q, a, w, γ, hk, h, hE, hK, hB => wp_exit (hK _ _ _ _ _ hk h hE)
  | .region id ops false, st, K, Q, a, w, γ, hk, h, hE, hK, hB => by
    refine wp_region ?_
    rw [List.range_eq_range', ← Array.length_toList]
    exact ops_sound hP hcall hI0 (fun p v st a w γ hk' hp h' hE' => hK (.pan p) _ _ _ _ hk' h' hE' v hp) (fun st' a' w' γ' hk' h' hE' => hK .normal _ _ _ _ (by rw [forceL_eq] at hk'; exact hk') (clear_sound _ _ h') hE') ops.toList 0 st a w γ (by simp) hk h hE
  | .region id ops true, st, K, Q, a, w, γ, hk, h, hE, hK, hB => draw_sound hP hcall hI0 hB (fun p v st a w γ hk' hp h' hE' => hK (.pan p) _ _ _ _ hk' h' hE' v hp) (fun st' a' w' γ' hk' h' hE' => hK .normal _ _ _ _ (by rw [forceL_eq] at hk'; exact hk') (clear_sound _ _ h') hE') hk h hE
  | .seq x y, st, K, Q, a, w, γ, hk, h, hE, hK, hB => by
    refine wp_seq (code_sound hP hcall hI0 x st _ _ a w γ hk h hE ?_ (fun c a d v w hq => hB c a d v w hq))
    intro e st' a' w' γ' hk' h' hE'
    cases e with
    | normal => exact code_sound hP hcall hI0 y st' K Q a' w' γ' hk' h' hE' hK hB
    | exit id => exact hK _ _ _ _ _ hk' h' hE'
    | ret => exact hK _ _ _ _ _ hk' h' hE'
    | pan v => exact hK _ _ _ _ _ hk' h' hE'
  | .cond c x y, st, K, Q, a, w, γ, hk, h, hE, hK, hB => by
    obtain ⟨h1, hk⟩ := chk_iff.mp hk
    refine wp_cond (isB_inv (h.val c) h1) ?_
    cases hb : (val st.sl c).toB with
    | true => rw [hb] at hk; exact code_sound hP hcall hI0 x st K Q a w γ hk h hE hK hB
    | false => rw [hb] at hk; exact code_sound hP hcall hI0 y st K Q a w γ hk h hE hK hB
  | .block id c, st, K, Q, a, w, γ, hk, h, hE, hK, hB => by
    refine wp_block (code_sound hP hcall hI0 c st _ _ a w γ hk h hE ?_ (fun c a d v w hq => hB c a d v w hq))
    intro e st' a' w' γ' hk' h' hE'
    cases e with
    | normal => exact hK _ _ _ _ _ hk' h' hE'
    | exit id' =>
      show (if id' = id then Q .normal a' w' else Q (.exit id') a' w')
      by_cases e : id' = id
      · subst e
        simp only [blockK, beq_self_eq_true, bcond] at hk'
        rw [if_pos rfl]
        exact hK _ _ _ _ _ hk' h' hE'
      · simp only [blockK, beq_eq_false_iff_ne.2 e, bcond] at hk'
        rw [if_neg e]
        exact hK _ _ _ _ _ hk' h' hE'
    | ret => exact hK _ _ _ _ _ hk' h' hE'
    | pan v => exact hK _ _ _ _ _ hk' h' hE'
  | .loop c, st, K, Q, a, w, γ, hk, h, hE, hK, hB => loop_sound hK hB (fun st' K' Q' a' w' γ' hk' h' hE' hK' hB' => code_sound hP hcall hI0 c st' K' Q' a' w' γ' hk' h' hE' hK' hB') hk h hE
  | .scope c, st, K, Q, a, w, γ, hk, h, hE, hK, hB => by
    refine wp_scope_straight (code_sound hP hcall hI0 c st K _ a w γ hk h hE ?_ (fun c a d v w hq => hB c a d v w hq))
    intro e st' a' w' γ' hk' h' hE'
    have := hK _ _ _ _ _ hk' h' hE'
    cases e with
    | normal => exact this
    | exit id => exact this
    | ret => exact this
    | pan v => exact this
  | .rangeFunc _ _ _ _, st, K, Q, a, w, γ, hk, h, hE, hK, hB => hk.elim
  | .goto _, st, K, Q, a, w, γ, hk, h, hE, hK, hB => hk.elim
  | .refuse _, st, K, Q, a, w, γ, hk, h, hE, hK, hB => hk.elim
/-- What a function gives out of its frame. -/
theorem tm_load {γ : Gh} {st : St} {a : Act} {w : World} (h : Rel γ st a w) {r t : Nat} {K : PV → Prop} (hk : loadV P st.sl st.sg t (st.sl.getD r .undef) K) :
    ∃ p v, K p ∧ (do loadVar t (← asAddr (a.tmps.getD r Go.undef)) : Sem Value).run P w = .ok v w ∧ Rep γ.I γ.ob p.strip v ∧ (∀ rows, p ≠ .list true rows) := by
  obtain ⟨p, v, h1, h2', h3, h4⟩ := load_sound (m := true) (P := P) (x := .tmp r) h (fun _ h => h) hk
  have h2 := h2' w (h.toObjs.held true)
  refine ⟨p, v, h1, ?_, SlotAt.strip (h4 0), fun rows e => by subst e; simp [PV.quiet] at h3⟩
  have e : a.eval (.tmp r) = a.tmps.getD r Go.undef := rfl
  rw [e] at h2
  generalize a.tmps.getD r Go.undef = va at *
  cases va with
  | pointer ad => cases ad with
    | some ad => exact h2
    | none => simp [Instr.loadAt, Instr.sureAddr] at h2
  | _ => simp [Instr.loadAt, Instr.sureAddr] at h2
theorem res_one {γ : Gh} {st : St} {a : Act} {w : World} (h : Rel γ st a w) (r : ResultVar) {K : PV → Prop} (hk : resV P st K r) :
    ∃ p v γ', K p ∧ (match r with | .tmp t => pure (a.tmps.getD t Go.undef) | .cell x t => do loadVar t (← asAddr (a.tmps.getD x Go.undef)) : Sem Value).run P w = .ok v w ∧ ResAt γ' w p v ∧ Objs γ' st.sg w ∧ Ext γ w γ' w ∧ Rep γ.I γ.ob p.strip v := by
  cases r with
  | tmp t =>
    by_cases hp : ∃ rows, st.sl.getD t .undef = .list true rows
    · obtain ⟨rows, hp⟩ := hp
      obtain ⟨B, h1, h2, h3⟩ := h.unslot hp
      have h4 := h2.tag (B := B) (t := some .rs) (fun b e => ⟨by simp [mv, e], (h1 b e).2⟩)
      rw [mv_mv] at h4
      simp only [resV, hp, mval] at hk
      exact ⟨_, _, _, hk, rfl, .inl ⟨rows, rfl, h3 _⟩, h4.toObjs, ext_mv fun b e => ⟨_, (h1 b e).1, by simp⟩, (h3 none).rep⟩
    · have hp' : ∀ rows, st.sl.getD t .undef ≠ .list true rows := fun rows e => hp ⟨rows, e⟩
      have hr := mval_quiet (h.rawS (.tmp t)) hp'
      refine ⟨_, _, γ, hk, rfl, .inr hr, h.toObjs, .refl _ _, ?_⟩
      exact SlotAt.strip (w := w) (sl := st.sl) (tm := a.tmps) (s := 0) hr.slot
  | cell x t =>
    simp only [resV] at hk
    obtain ⟨p, v, h1, h2, h3, h4⟩ := tm_load (P := P) h hk
    exact ⟨p.strip, v, γ, h1, h2, .inr h3, h.toObjs, .refl _ _, SlotAt.strip (w := w) (sl := st.sl) (tm := a.tmps) (s := 0) h3.slot⟩
def resRun (tm : Array Value) : ResultVar → Sem Value
  | .tmp t => pure (tm.getD t Go.undef)
  | .cell x t => do loadVar t (← asAddr (tm.getD x Go.undef))
theorem res_all {γ : Gh} {st : St} {a : Act} {w : World} (h : Rel γ st a w) : ∀ (rs : List ResultVar) (K : List PV → Prop), resAll P st K rs →
    ∃ ps vs, K ps ∧ (rs.mapM (resRun a.tmps)).run P w = .ok vs w ∧ ps.length = vs.length ∧ vs.length = rs.length ∧ ∀ j, j < ps.length → Rep γ.I γ.ob (ps.getD j .undef) (vs.getD j Go.undef)
  | [], K, hk => ⟨[], [], hk, rfl, rfl, rfl, by simp⟩
  | r :: rs, K, hk => by
    obtain ⟨p, v, _, h1, h2, _, _, _, h3⟩ := res_one h r hk
    obtain ⟨ps, vs, k1, k2, k3, k4, k5⟩ := res_all h rs _ h1
    have h2' : (resRun a.tmps r).run P w = .ok v w := by cases r <;> exact h2
    refine ⟨_, v :: vs, k1, ?_, by simp [k3], by simp [k4], fun j hj => ?_⟩
    · simp only [List.mapM_cons, Sem.run_bind, h2', Result.andThen_ok, k2, Sem.run_pure]
    · cases j with
      | zero => exact h3
      | succ j => simp only [List.length_cons] at hj; exact k5 j (by omega)
theorem results_eq (F : Func) (tm : Array Value) (w : World) {vs : List Value} (h : (F.results.toList.mapM (resRun tm)).run P w = .ok vs w) : (results F tm).run P w = .ok (if h : vs.length = 1 then vs[0] else .tuple vs.toArray) w := by
  have e : results F tm = (F.results.mapM (resRun tm) >>= fun vs => pure (if h : vs.size = 1 then vs[0] else .tuple vs)) :=
    congrArg (fun g => F.results.mapM g >>= fun vs => (pure (if h : vs.size = 1 then vs[0] else .tuple vs) : Sem Value)) (funext fun x => by cases x <;> rfl)
  rw [e, Sem.run_bind, Array.mapM_eq_mapM_toList, Sem.run_map, h]
  simp only [Result.andThen_ok, Sem.run_pure]
  congr 1
theorem results_sound {γ : Gh} {st : St} {a : Act} {w : World} (h : Rel γ st a w) (F : Func) {K : PV → Prop} (hk : resultsW P F st K) :
    ∃ p v γ', K p ∧ (results F a.tmps).run P w = .ok v w ∧ ResAt γ' w p v ∧ Objs γ' st.sg w ∧ Ext γ w γ' w := by
  unfold resultsW at hk
  split at hk
  · rename_i r hr
    obtain ⟨p, v, γ', h1, h2, h3, h4, h5, _⟩ := res_one h r hk
    have h2' : (resRun a.tmps r).run P w = .ok v w := by cases r <;> exact h2
    refine ⟨p, v, γ', h1, ?_, h3, h4, h5⟩
    rw [results_eq F a.tmps w (vs := [v]) (by rw [hr]; simp only [List.mapM_cons, List.mapM_nil, Sem.run_bind, h2', Result.andThen_ok, Sem.run_pure])]
    rfl
  · rename_i hr
    obtain ⟨ps, vs, k1, k2, k3, k4, k5⟩ := res_all h F.results.toList _ hk
    have hne : ¬ vs.length = 1 := by
      intro e
      rw [e] at k4
      cases hl : F.results.toList with
      | nil => rw [hl] at k4; simp at k4
      | cons r rs =>
        rw [hl] at k4
        have : rs = [] := List.eq_nil_of_length_eq_zero (by simp only [List.length_cons] at k4; omega)
        subst this
        exact hr r hl
    refine ⟨_, .tuple vs.toArray, γ, k1, ?_, .inr (.tup _ _ (by simpa using k3) fun j hj => ?_), h.toObjs, .refl _ _⟩
    · rw [results_eq F a.tmps w k2, dif_neg hne]
    · have := k5 j hj
      simpa [List.getD_eq_getElem?_getD, Array.getD_eq_getD_getElem?] using this
end ops
def noD (γ : Gh) (D : List Deferred) : Gh := { γ with D := D }
theorem Ext.outD {γ γ' : Gh} {D : List Deferred} {w w' : World} (h : Ext (noD γ D) w γ' w') : Ext γ w (noD γ' γ.D) w' := ⟨h.size, h.leI, h.leO, rfl, h.io, h.keep⟩
theorem Objs.noD {γ : Gh} {D : List Deferred} {sg : List (List PV)} {w : World} (h : Objs γ sg w) : Objs (noD γ D) sg w :=
  Objs.keep (γ := γ) (γ' := Ev.noD γ D) (w := w) (w' := w) (.refl _) rfl ⟨fun _ b hb => ⟨rfl, hb, fun _ => rfl⟩, fun _ _ b hb => ⟨rfl, hb, fun _ => rfl⟩⟩ h.imm h.inH h
/-- A function's body. -/
theorem body_sound {P : Program} {call : Caller} (hP : NoNG P) {I0 : Nat → Nat → Option Value} (hcall : CallSound P I0 call) {n : Nat} {hint : Hint} {f : FuncId} {F : Func} (hF : P.funcs[f]? = some F) {args : List PV} {sg : List (List PV)} {K : Res → List (List PV) → Prop}
    (hk : bodyW P call n hint F args sg K) {γ : Gh} {w : World} {cargs : Array Value} (hI0 : LeI I0 γ.I) (hO : Objs γ sg w) (ha : RepArgs γ args cargs) : Calls P f cargs w (CallPost γ w K) := by
  unfold bodyW at hk
  split at hk
  · rename_i c hb
    refine calls_of_wp hF hb ?_
    have h : Rel (noD γ []) ⟨args ++ List.replicate (F.ntmps - args.length) .skip, sg⟩ ⟨cargs ++ Array.replicate (F.ntmps - cargs.size) Go.undef, []⟩ w := by
      obtain ⟨hl, hr⟩ := ha
      refine ⟨hO.noD, by simp [hl], rfl, fun s hs => ?_⟩
      simp only [List.length_append, List.length_replicate] at hs
      simp only [List.getD_eq_getElem?_getD, Array.getD_eq_getD_getElem?]
      by_cases c1 : s < args.length
      · have := hr s c1
        simp only [List.getD_eq_getElem?_getD, Array.getD_eq_getD_getElem?] at this
        rw [List.getElem?_append_left c1, Array.getElem?_append_left (by omega)]
        exact this.slot
      · rw [List.getElem?_append_right (by omega), Array.getElem?_append_right (by omega)]
        have e1 : (List.replicate (F.ntmps - args.length) PV.skip)[s - args.length]? = some .skip := by
          rw [List.getElem?_replicate, if_pos (by omega)]
        have e2 : (Array.replicate (F.ntmps - cargs.size) Go.undef)[s - cargs.size]? = some Go.undef := by
          rw [Array.getElem?_replicate, if_pos (by omega)]
        rw [e1, e2]
        exact Rep.slot .skip
    refine code_sound (γ0 := noD γ []) (w0 := w) hP hcall hI0 c _ _ _ _ w (noD γ []) hk h (.refl _ _) ?_ (fun c a d v w hq => ⟨by cases d <;> exact hq.1, hq.2⟩)
    intro e st a' w' γ' hk' h' hE'
    have hret : resultsW P F st (fun v => K ⟨false, v⟩ st.sg) → a'.defers = [] ∧ ∃ v, (results F a'.tmps).run P w' = .ok v w' ∧ CallPost γ w K (.returned v) w' := by
      intro hk
      obtain ⟨p, v, γ2, h1, h2, h3, h4, h5⟩ := results_sound h' F hk
      exact ⟨h'.defers.trans hE'.D, v, h2, noD γ2 γ.D, _, _, h1, h4.noD, (hE'.trans h5).outD, rfl, h3⟩
    cases e with
    | normal => exact hret hk'
    | ret => exact hret hk'
    | exit id => exact hk'.elim
    | pan p => exact fun v hv => ⟨h'.defers.trans hE'.D, noD γ' γ.D, _, _, hk', h'.toObjs.noD, hE'.outD, rfl, v, rfl, hv⟩
  · exact hk.elim
/-- THE EVALUATOR IS SOUND. -/
theorem callW_sound (E : Env) (hP : NoNG E.P) (I0 : Nat → Nat → Option Value)
    (hfor : ∀ f g, E.foreign f = some g → ∀ call, CallSound E.P I0 call → ∀ args sg K, g call args sg K → ∀ γ w cargs, LeI I0 γ.I → Objs γ sg w → RepArgs γ args cargs → Calls E.P f cargs w (CallPost γ w K)) :
    ∀ k, CallSound E.P I0 (callW E k)
  | 0 => fun f args sg K hk => hk.elim
  | k + 1 => fun f args sg K hk γ w cargs hI hO ha => by
    have ih := callW_sound E hP I0 hfor k
    unfold callW at hk
    split at hk
    · rename_i g hg
      exact hfor f g hg _ ih args sg K hk γ w cargs hI hO ha
    · split at hk
      · rename_i F hF
        exact body_sound hP ih hF hk hI hO ha
      · exact hk.elim
end Go.Ev
namespace Go.Ev
open PV
def pin (ss : List Nat) (tm : Nat → Value) (Q : Exit → Act → World → Prop) : Exit → Act → World → Prop := fun e a w => Q e a w ∧ (e ≠ .outgrown → ∀ s ∈ ss, a.tmps.getD s Go.undef = tm s)
def keepsOp (ss : List Nat) (o : Oper) : Bool := match o.dst with
  | some d => !ss.contains d
  | none => true
/-- No loop, no region of open order, no write to these slots. -/
def keeps (ss : List Nat) : Code → Bool
  | .region _ ops d => !d && ops.toList.all (keepsOp ss)
  | .seq a b => keeps ss a && keeps ss b
  | .cond _ a b => keeps ss a && keeps ss b
  | .block _ a => keeps ss a
  | .scope a => keeps ss a
  | .skip => true
  | .ret => true
  | .exit _ => true
  | .label _ => true
  | _ => false
theorem put_keep {ss : List Nat} {o : Oper} (h : keepsOp ss o = true) {a : Act} {v : Value} {tm : Nat → Value} (ha : ∀ s ∈ ss, a.tmps.getD s Go.undef = tm s) : ∀ s ∈ ss, (a.put o.dst v).tmps.getD s Go.undef = tm s := by
  intro s hs
  unfold keepsOp at h
  unfold Act.put
  split
  · rename_i d hd
    rw [hd] at h
    have hne : d ≠ s := fun e => by subst e; simp [hs] at h
    rw [← ha s hs]
    simp [Array.getD_eq_getD_getElem?, Array.getElem?_setIfInBounds_ne hne]
  · exact ha s hs
section
variable {P : Program} {ss : List Nat} {tm : Nat → Value} {Q : Exit → Act → World → Prop}
theorem lets_pin (h : LetsOut Q) : LetsOut (pin ss tm Q) := let ⟨a, w, h⟩ := h; ⟨a, w, h, fun e => (e rfl).elim⟩
theorem wpOps_pin {ops : Array Oper} (hops : ops.toList.all (keepsOp ss) = true) : ∀ (l : List Nat) (a : Act) (w : World), wpOps P ops Q l a w → (∀ s ∈ ss, a.tmps.getD s Go.undef = tm s) → wpOps P ops (pin ss tm Q) l a w
  | [], a, w, h, ha => ⟨h, fun _ => ha⟩
  | i :: r, a, w, h, ha => by
    unfold wpOps at h ⊢
    cases ho : ops[i]? with
    | none => rw [ho] at h; exact wpOps_pin hops r a w h ha
    | some o =>
      rw [ho] at h
      have hk : keepsOp ss o = true := by
        have := List.all_eq_true.1 hops o (by
          obtain ⟨hi, e⟩ := Array.getElem?_eq_some_iff.1 ho
          rw [← e]; simp)
        exact this
      simp only at h ⊢
      split at h
      · rename_i hw
        rw [if_pos hw]
        rcases h with h | ⟨h1, h2⟩
        · left
          unfold Oper.wp at h ⊢
          generalize (execOp a.eval o).run P w = r0 at h
          unfold Oper.upon at h ⊢
          split at h
          · exact wpOps_pin hops r _ _ h (put_keep hk ha)
          · exact wpOps_pin hops r _ _ h (put_keep hk ha)
          · exact wpOps_pin hops r _ _ h (put_keep (a := { a with defers := _ :: a.defers }) hk ha)
          · refine h.mono ?_
            intro e w'' h
            cases e with
            | returned v => exact wpOps_pin hops r _ _ h (put_keep hk ha)
            | panicked ch => exact ⟨h, fun _ => ha⟩
            | outgrown => exact lets_pin h
          · exact h.mono fun v w' h => wpOps_pin hops r _ _ h (put_keep hk ha)
          · exact ⟨h, fun _ => ha⟩
          · exact h
        · exact .inr ⟨h1, lets_pin h2⟩
      · rename_i hw
        rw [if_neg hw]
        exact wpOps_pin hops r _ _ h (put_keep hk ha)
variable {call : Caller} {γ0 : Gh} {w0 : World}
theorem code_pin (hP : NoNG P) {I0 : Nat → Nat → Option Value} (hcall : CallSound P I0 call) (hI0 : LeI I0 γ0.I) {n : Nat} {hint : Hint} : ∀ (c : Code) (st : St) (K : Cont) (Q : Exit → Act → World → Prop) (a : Act) (w : World) (γ : Gh), keeps ss c = true →
    codeW P call n hint c st K → Rel γ st a w → Ext γ0 w0 γ w → Cont' γ0 w0 K Q → (∀ s ∈ ss, a.tmps.getD s Go.undef = tm s) → c.wp P (pin ss tm Q) a w
  | .skip, st, K, Q, a, w, γ, hs, hk, h, hE, hK, ha => wp_skip ⟨hK _ _ _ _ _ hk h hE, fun _ => ha⟩
  | .label _, st, K, Q, a, w, γ, hs, hk, h, hE, hK, ha => wp_label ⟨hK _ _ _ _ _ hk h hE, fun _ => ha⟩
  | .ret, st, K, Q, a, w, γ, hs, hk, h, hE, hK, ha => wp_ret ⟨hK _ _ _ _ _ hk h hE, fun _ => ha⟩
  | .exit id, st, K, Q, a, w, γ, hs, hk, h, hE, hK, ha => wp_exit ⟨hK _ _ _ _ _ hk h hE, fun _ => ha⟩
  | .region id ops false, st, K, Q, a, w, γ, hs, hk, h, hE, hK, ha => by
    have hs : (!false && ops.toList.all (keepsOp ss)) = true := hs
    refine wp_region ?_
    refine wpOps_pin (by simpa using hs) _ _ _ ?_ ha
    rw [List.range_eq_range', ← Array.length_toList]
    exact ops_sound hP hcall hI0 (fun p v st a w γ hk' hp h' hE' => hK (.pan p) _ _ _ _ hk' h' hE' v hp) (fun st' a' w' γ' hk' h' hE' => hK .normal _ _ _ _ (by rw [forceL_eq] at hk'; exact hk') (clear_sound _ _ h') hE') ops.toList 0 st a w γ (by simp) hk h hE
  | .region id ops true, st, K, Q, a, w, γ, hs, hk, h, hE, hK, ha => by
    have hs : (!true && ops.toList.all (keepsOp ss)) = true := hs
    simp at hs
  | .seq x y, st, K, Q, a, w, γ, hs, hk, h, hE, hK, ha => by
    have hs : (keeps ss x && keeps ss y) = true := hs
    simp only [Bool.and_eq_true] at hs
    refine wp_seq (wp_mono (code_pin hP hcall hI0 x st _ (Exit.then (fun a w => (∀ s ∈ ss, a.tmps.getD s Go.undef = tm s) → y.wp P (pin ss tm Q) a w) Q) a w γ hs.1 hk h hE ?_ ha) ?_)
    · intro e st' a' w' γ' hk' h' hE'
      cases e with
      | normal => exact fun ha' => code_pin hP hcall hI0 y st' K Q a' w' γ' hs.2 hk' h' hE' hK ha'
      | exit id => exact hK _ _ _ _ _ hk' h' hE'
      | ret => exact hK _ _ _ _ _ hk' h' hE'
      | pan v => exact hK _ _ _ _ _ hk' h' hE'
    · intro e a' w' h
      cases e with
      | normal => exact h.1 (h.2 (by simp))
      | exit id => exact h
      | ret => exact h
      | goto _ => exact h
      | panic _ => exact h
      | outgrown => exact h
  | .cond c x y, st, K, Q, a, w, γ, hs, hk, h, hE, hK, ha => by
    have hs : (keeps ss x && keeps ss y) = true := hs
    simp only [Bool.and_eq_true] at hs
    obtain ⟨h1, hk⟩ := chk_iff.mp hk
    refine wp_cond (isB_inv (h.val c) h1) ?_
    cases hb : (val st.sl c).toB with
    | true => rw [hb] at hk; exact code_pin hP hcall hI0 x st K Q a w γ hs.1 hk h hE hK ha
    | false => rw [hb] at hk; exact code_pin hP hcall hI0 y st K Q a w γ hs.2 hk h hE hK ha
  | .block id c, st, K, Q, a, w, γ, hs, hk, h, hE, hK, ha => by
    refine wp_block (wp_mono (code_pin hP hcall hI0 c st _ (Exit.inBlock id Q) a w γ hs hk h hE ?_ ha) ?_)
    · intro e st' a' w' γ' hk' h' hE'
      cases e with
      | normal => exact hK _ _ _ _ _ hk' h' hE'
      | exit id' =>
        show (if id' = id then Q .normal a' w' else Q (.exit id') a' w')
        by_cases e : id' = id
        · subst e
          simp only [blockK, beq_self_eq_true, bcond] at hk'
          rw [if_pos rfl]
          exact hK _ _ _ _ _ hk' h' hE'
        · simp only [blockK, beq_eq_false_iff_ne.2 e, bcond] at hk'
          rw [if_neg e]
          exact hK _ _ _ _ _ hk' h' hE'
      | ret => exact hK _ _ _ _ _ hk' h' hE'
      | pan v => exact hK _ _ _ _ _ hk' h' hE'
    · intro e a' w' ⟨h1, h2⟩
      cases e with
      | exit id' =>
        have h1 : (if id' = id then Q .normal a' w' else Q (.exit id') a' w') := h1
        show (if id' = id then pin ss tm Q .normal a' w' else pin ss tm Q (.exit id') a' w')
        split
        · rename_i e; rw [if_pos e] at h1; exact ⟨h1, fun _ => h2 (by simp)⟩
        · rename_i e; rw [if_neg e] at h1; exact ⟨h1, fun _ => h2 (by simp)⟩
      | normal => exact ⟨h1, h2⟩
      | ret => exact ⟨h1, h2⟩
      | goto _ => exact ⟨h1, h2⟩
      | panic _ => exact ⟨h1, h2⟩
      | outgrown => exact ⟨h1, h2⟩
  | .loop c, st, K, Q, a, w, γ, hs, hk, h, hE, hK, ha => by cases hs
  | .scope c, st, K, Q, a, w, γ, hs, hk, h, hE, hK, ha => by
    refine wp_scope_straight (wp_mono (code_pin hP hcall hI0 c st K (Exit.noGoto Q) a w γ hs hk h hE ?_ ha) ?_)
    · intro e st' a' w' γ' hk' h' hE'
      have := hK _ _ _ _ _ hk' h' hE'
      cases e with
      | normal => exact this
      | exit id => exact this
      | ret => exact this
      | pan v => exact this
    · intro e a' w' h
      cases e with
      | goto l => exact h.1.elim
      | normal => exact h
      | exit id => exact h
      | ret => exact h
      | panic _ => exact h
      | outgrown => exact h
  | .rangeFunc _ _ _ _, st, K, Q, a, w, γ, hs, hk, h, hE, hK, ha => hk.elim
  | .goto _, st, K, Q, a, w, γ, hs, hk, h, hE, hK, ha => hk.elim
  | .refuse _, st, K, Q, a, w, γ, hs, hk, h, hE, hK, ha => hk.elim
end
end Go.Ev
