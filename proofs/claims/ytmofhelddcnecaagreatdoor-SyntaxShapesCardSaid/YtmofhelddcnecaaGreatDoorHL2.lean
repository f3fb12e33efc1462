/- Trees that came in read as plain trees; SyntaxShapes comes to true. -/
import Derived.Test.YtmofhelddcnecaaGreatDoorH6
import Derived.Test.YtmofhelddcnecaaGreatDoorHN
import Derived.ProofKit
import Derived.SizedLaws
import Derived.ChangeArms
import Derived.WideKeyArgs
import Derived.ChangeOld
import Derived.ChangeMaps5
import Derived.Test.YtmofhelddcnecaaGreatDoorHW
import Derived.Test.YtmofhelddcnecaaGreatDoorHND
import Derived.Test.YtmofhelddcnecaaGreatDoorHLd
set_option linter.unusedVariables false
set_option linter.unusedSimpArgs false
namespace Go.Ev
open PV Go.RowKit Go.Proofs
/-- A node's cells stand for a tree. -/
def NodeAt (W : World) (t : Tree) (cs : List Value) : Prop := cs.length = 5 ∧ ∀ j, j < 5 → Rep (γ0 W).I [] ((nodeRow t).getD j .undef) (cs.getD j Go.undef)
theorem pickT {α : Type} {p : Nat → α → Prop} : ∀ {n : Nat}, (∀ i, i < n → ∃ x, p i x) → ∃ xs : List α, xs.length = n ∧ ∀ i x, xs[i]? = some x → p i x
  | 0, _ => ⟨[], rfl, fun i x h => by simp at h⟩
  | n + 1, h => by
    obtain ⟨xs, h1, h2⟩ := pickT (n := n) (fun i hi => h i (by omega))
    obtain ⟨y, hy⟩ := h n (by omega)
    refine ⟨xs ++ [y], by simp [h1], fun i x hx => ?_⟩
    rcases Nat.lt_or_ge i n with hi | hi
    · rw [List.getElem?_append_left (by omega)] at hx
      exact h2 i x hx
    · rw [List.getElem?_append_right (by omega)] at hx
      obtain ⟨rfl⟩ : i = n := by
        have := (List.getElem?_eq_some_iff.1 hx).1
        simp at this
        omega
      rw [h1, Nat.sub_self] at hx
      obtain rfl : y = x := by simpa using hx
      exact hy
theorem node_cell (t : Tree) {j : Nat} (hj : j < 5) : ((nodeRow t).getD j .undef).isCell = true := by
  cases t
  have : j = 0 ∨ j = 1 ∨ j = 2 ∨ j = 3 ∨ j = 4 := by omega
  rcases this with rfl | rfl | rfl | rfl | rfl <;> rfl
/-- Of a size that memory allows. -/
def Sized (t : Tree) : Prop := Wid (reachBytes + 1) t ∧ Txt (reachBytes + 1) t
theorem weights_all {H : Type} {P : Program} {e : TypeId} : ∀ {l : List (DataW H)} {d : DataW H}, d ∈ l → ∀ n ∈ d.weights P e, n ∈ DataW.weightsAll P e l
  | x :: r, d, h, n, hn => by
    rw [DataW.weightsAll]
    rcases List.mem_cons.1 h with rfl | h
    · exact List.mem_append_left _ hn
    · exact List.mem_append_right _ (weights_all h n hn)
/-- Nothing in a datum is larger than memory. -/
def Fits {H : Type} (P : Program) (t : TypeId) (d : DataW H) : Prop := ∀ n ∈ d.weights P t, n ≤ reachBytes
set_option maxRecDepth 100000 in
theorem opens_tree {W : World} {H : Type} {enc : TypeId × Value → H} {base : Nat} {spare : Nat → Bool} {held : Bool} : ∀ (n : Nat) (cs : List Value) (x : DataW H × List MemPlace), DataW.trod enc Tryz.prog W base spare held n 25 cs = some x → Fits Tryz.prog 25 x.1 → ∃ t, NodeAt W t cs ∧ Sized t := by
  intro n
  induction n using Nat.strongRecOn with
  | _ n ih =>
  intro cs x h hw
  obtain ⟨xs, m, rfl, hx, hlen, hxs, hf⟩ := DataW.trod_struct Tryz.underlying25 h
  have hcs : cs.length = 5 := hlen.trans (by kernel_rfl)
  have hxl : xs.length = 5 := hxs
  match cs, hcs, xs, hxl, hf with
  | [c0, c1, c2, c3, c4], _, [y0, y1, y2, y3, y4], _, hf =>
    have hw : ∀ n, n ∈ DataW.weightsEach Tryz.prog [3, 9, 3, 3, 23] [y0.1, y1.1, y2.1, y3.1, y4.1] → n ≤ reachBytes := fun n hn => hw n (by
      rw [hx]
      have e : DataW.weights Tryz.prog 25 (DataW.agg [y0.1, y1.1, y2.1, y3.1, y4.1]) = DataW.weightsEach Tryz.prog [3, 9, 3, 3, 23] [y0.1, y1.1, y2.1, y3.1, y4.1] := by rw [DataW.weights, Tryz.underlying25]; rfl
      exact e ▸ hn)
    have g0 : DataW.trod enc Tryz.prog W base spare held m 3 (([c0, c1, c2, c3, c4].drop 0).take (Tryz.prog.cellsOf 3)) = some y0 := hf 0 _ rfl
    rw [show Tryz.prog.cellsOf 3 = 1 from by kernel_rfl] at g0
    obtain ⟨a0, e0, _, w0⟩ := DataW.trod_int Tryz.underlying3 g0
    have q0 : c0 = .int .i64 a0 := by simpa using e0
    have g1 : DataW.trod enc Tryz.prog W base spare held m 9 (([c0, c1, c2, c3, c4].drop 1).take (Tryz.prog.cellsOf 9)) = some y1 := hf 1 _ rfl
    rw [show Tryz.prog.cellsOf 9 = 1 from by kernel_rfl] at g1
    obtain ⟨a1, e1, f1, w1⟩ := DataW.trod_string Tryz.underlying9 g1
    have z1 : a1.size ≤ reachBytes := by
      have := hw a1.data.toList.length (DataW.weights_mem_each (j := 1) (t := 9) (d := y1.1) rfl rfl _ (by rw [f1]; simp [DataW.weights]))
      rw [len_data] at this; exact this
    have q1 : c1 = .string a1 := by simpa using e1
    have g2 : DataW.trod enc Tryz.prog W base spare held m 3 (([c0, c1, c2, c3, c4].drop 2).take (Tryz.prog.cellsOf 3)) = some y2 := hf 2 _ rfl
    rw [show Tryz.prog.cellsOf 3 = 1 from by kernel_rfl] at g2
    obtain ⟨a2, e2, _, w2⟩ := DataW.trod_int Tryz.underlying3 g2
    have q2 : c2 = .int .i64 a2 := by simpa using e2
    have g3 : DataW.trod enc Tryz.prog W base spare held m 3 (([c0, c1, c2, c3, c4].drop 3).take (Tryz.prog.cellsOf 3)) = some y3 := hf 3 _ rfl
    rw [show Tryz.prog.cellsOf 3 = 1 from by kernel_rfl] at g3
    obtain ⟨a3, e3, _, w3⟩ := DataW.trod_int Tryz.underlying3 g3
    have q3 : c3 = .int .i64 a3 := by simpa using e3
    have g4 : DataW.trod enc Tryz.prog W base spare held m 23 (([c0, c1, c2, c3, c4].drop 4).take (Tryz.prog.cellsOf 23)) = some y4 := hf 4 _ rfl
    rw [show Tryz.prog.cellsOf 23 = 1 from by kernel_rfl] at g4
    subst q0 q1 q2 q3
    have fin : ∀ (ks : List Tree), (∀ t ∈ ks, Sized t) → ks.length ≤ reachBytes → Rep (γ0 W).I [] (.list false (kidRows ks)) c4 → ∃ t, NodeAt W t [.int .i64 a0, .string a1, .int .i64 a2, .int .i64 a3, c4] ∧ Sized t := by
      intro ks hk hl hr
      refine ⟨.mk a0 a1 a2 a3 ks, ⟨rfl, fun j hj => ?_⟩, .mk _ _ _ _ _ (by omega) fun x hx => (hk x hx).1, .mk _ _ _ _ _ (by omega) fun x hx => (hk x hx).2⟩
      have : j = 0 ∨ j = 1 ∨ j = 2 ∨ j = 3 ∨ j = 4 := by omega
      rcases this with rfl | rfl | rfl | rfl | rfl
      · exact .int _ _
      · exact .str _
      · exact .int _ _
      · exact .int _ _
      · exact hr
    rcases DataW.trod_slice Tryz.underlying23 g4 with ⟨e4, _⟩ | ⟨a, len, cap, elems, rest, m', rfl, e4, hy4, hb, hl, hm, hle, hel, _, _⟩
    · have q4 : c4 = .slice none 0 0 := by simpa using e4
      subst q4
      exact fin [] (fun _ h => by cases h) (Nat.zero_le _) .nil
    · have q4 : c4 = .slice (some a) len cap := by simpa using e4
      subst q4
      have hsz : Tryz.prog.cellsOf 25 = 5 := by kernel_rfl
      have h4 : ∀ n, n ∈ DataW.weights Tryz.prog 23 y4.1 → n ≤ reachBytes := fun n hn => hw n (DataW.weights_mem_each (j := 4) (t := 23) (d := y4.1) rfl rfl n hn)
      rw [hy4, DataW.weights, Tryz.underlying23] at h4
      have hby : Tryz.prog.bytesOf 25 = 64 := by kernel_rfl
      have hlr : len ≤ reachBytes := by
        have := h4 _ (List.mem_cons_self)
        rw [hby, List.length_map, hle] at this
        have := Nat.le_trans (Nat.mul_le_mul (Nat.le_add_right _ _) (show 1 ≤ 64 by omega)) this
        omega
      have hel4 : ∀ y ∈ elems, Fits Tryz.prog 25 y.1 := fun y hy n hn => h4 n (List.mem_cons_of_mem _ (List.mem_append_left _ (weights_all (List.mem_map_of_mem hy) n hn)))
      obtain ⟨ts, h1, h2⟩ := pickT (n := len) (p := fun i t => ∃ c : List Value, W.cells? base (a.add (i * 5)) 5 = some c ∧ NodeAt W t c ∧ Sized t) (fun i hi => by
        have h1 := hel i hi
        rw [List.getElem?_eq_getElem (by omega)] at h1
        obtain ⟨c, h2, h3⟩ := Option.bind_eq_some_iff.1 h1
        rw [hsz] at h2
        obtain ⟨t, ht⟩ := ih _ (by omega) c _ h3 (hel4 _ (List.getElem_mem _))
        exact ⟨t, c, h2, ht⟩)
      subst h1
      refine fin ts (fun t ht => ?_) hlr ?_
      · obtain ⟨i, hi⟩ := List.getElem?_of_mem ht
        obtain ⟨c, _, _, hs⟩ := h2 i t hi
        exact hs
      · have hsp : ts ≠ [] → a.spot = none := fun hne => by
          have h0 : 0 < ts.length := List.length_pos_iff.2 hne
          obtain ⟨c, hc, _⟩ := h2 0 ts[0] (List.getElem?_eq_getElem h0)
          obtain ⟨_, hcl, hcc⟩ := World.cells?_some hc
          have h3 := hcc 0 (by omega)
          rw [List.getElem?_eq_getElem (by omega)] at h3
          have e : (a.add (0 * 5)).add 0 = a := rfl
          rw [e] at h3
          unfold World.cell? at h3
          cases hs : a.spot with
          | none => rfl
          | some _ => rw [hs] at h3; split at h3 <;> simp at h3
        have hr := RowsAt.rep (γ := γ0 W) (A := a) (k := 5) (c := cap) (rows := kidRows ts) ⟨fun r hr => ?_, fun i j hi hj => ?_⟩ (fun h => hsp (by rintro rfl; exact h rfl)) (by rw [kidRows_len]; exact hl)
        · rw [kidRows_len] at hr; exact hr
        · rw [kidRows_map] at hr
          obtain ⟨y, _, rfl⟩ := List.mem_map.1 hr
          cases y; rfl
        · rw [kidRows_len] at hi
          obtain ⟨c, hc, hn, _⟩ := h2 i ts[i] (List.getElem?_eq_getElem hi)
          obtain ⟨_, hcl, hcc⟩ := World.cells?_some hc
          have h3 := hcc j hj
          have hsp := hsp (by rintro rfl; simp at hi)
          rw [List.getElem?_eq_getElem (by omega), addr_add a _ hsp, addr_add _ _ rfl] at h3
          have hrep := hn.2 j hj
          have e1 : c.getD j Go.undef = c[j]'(by omega) := by rw [List.getD_eq_getElem?_getD, List.getElem?_eq_getElem (by omega)]; rfl
          have e2 : (kidRows ts).getD i [] = nodeRow ts[i] := by rw [kidRows_map, List.getD_eq_getElem?_getD, List.getElem?_map, List.getElem?_eq_getElem hi]; rfl
          rw [e1] at hrep
          rw [e2]
          refine ⟨_, ?_, hrep.cell ?_, hrep⟩
          · show W.cell? ⟨a.block, a.off + (i * 5 + j), none⟩ = _
            rw [← Nat.add_assoc]; exact h3
          · exact node_cell _ hj
/-- What came in reads as before, where old memory has not changed. -/
theorem trod_lt {P : Program} {w : World} {H : Type} {enc : TypeId × Value → H} {base : Nat} {spare : Nat → Bool} {held : Bool} : ∀ (n : Nat) (t : TypeId) (cs : List Value) (x : DataW H × List MemPlace), DataW.trod enc P w base spare held n t cs = some x → ∀ p ∈ x.2, p.block < w.heap.size
  | 0, t, cs, x, h => by simp [DataW.trod] at h
  | n + 1, t, cs, x, h => by
    rw [DataW.trod_step] at h
    exact DataW.trodStep_lt (trod_lt n) h
theorem stays {P : Program} {w : World} {t : TypeId} {H : Type} {enc : TypeId × Value → H} {v : Value} {d : DataW H} {ps : List MemPlace} {w' : World} (hl : laidOutB P = true) (hr : P.readableRec t = true) (hrow : t < P.types.size) (hb : Below w.heap.size w w')
    (h : DataW.Trod enc P w 0 (fun _ => true) true t v d ps) : DataW.Trod enc P w' 0 (fun b => decide (b < w.heap.size)) true t v d ps := by
  have hlt : ∀ p ∈ ps, p.block < w.heap.size := by
    obtain ⟨n, hn⟩ := h
    exact trod_lt n t _ _ hn
  refine Go.WideElems.Trod_stays hl hr hrow h (fun p hp => ?_) (fun p hp => decide_eq_true (hlt p hp))
  have hp' := hlt p hp
  cases p with
  | cell b off => exact hb.cell (p := ⟨b, off, none⟩) hp'
  | map b => exact hb.block b hp'
theorem laidOut : laidOutB Tryz.prog = true := by kernel_rfl
end Go.Ev
set_option linter.unusedSectionVars false
set_option maxRecDepth 4000
namespace Go.Ev
open PV
section
variable {n : Nat} {sg : List (List PV)} {K : Res → Out}
theorem beq_b (b : Bool) : (b == b) = true := by cases b <;> rfl
theorem beq_i (a : Int) : (a == a) = true := by simp
theorem shapes_spec {k d : Nat} {a b : Tree} (hn : 2000010 ≤ n) (hL : n ≤ 4611686018427387904) (ha : Hgt d a) (wa : Wid n a) (xa : Txt n a) (hk : dD 601 + eD 601 + 6 * d + 100 ≤ k) (h : ∀ e, K ⟨false, .bool true⟩ (sg ++ e)) : callW (En n) k 7 [nodeV a, nodeV b] sg K := by
  rw [callW_at (by omega) rfl]
  show B n _ 7 sg [.agg [.int .i64 a.kind, .str a.text, .int .i64 a.at_, .int .i64 a.end_, .list false (kidRows a.kids)], .agg [.int .i64 b.kind, .str b.text, .int .i64 b.at_, .int .i64 b.end_, .list false (kidRows b.kids)]] K
  rw [Law12_SyntaxShapes.eq, cB]
  refine alive_spec hn hL (by omega) fun e1 => ?_
  show C n _ 7 _ (Law12_SyntaxShapes.S0 a.kind a.text a.at_ a.end_ (kidRows a.kids) b.kind b.text b.at_ b.end_ (kidRows b.kids) a.kind a.text a.at_ a.end_ (kidRows a.kids) b.kind b.text b.at_ b.end_ (kidRows b.kids) false) (sg ++ e1) _
  rw [C_eq, Law12_SyntaxShapes.cut0]
  show cB _ 17 [nodeV a] _ (pan K) _
  rw [cB_of _ (fun K => right_spec hL a ha wa xa (by omega))]
  show cB _ 24 [nodeV a] _ (pan K) _
  rw [cB_of _ (fun K => rright_spec hL (by omega) a ha wa xa (by omega)), beq_b, bcond_t]
  show cB _ 25 [nodeV a, nodeV b] _ (pan K) _
  rw [cB_of _ (fun K => psame_spec hL d _ a b K ha (by omega) wa)]
  show cB _ 26 [nodeV a, nodeV b] _ (pan K) _
  rw [cB_of _ (fun K => rsame_spec hL d _ a b K ha (by omega) wa), beq_b, bcond_t]
  show cB _ 25 [nodeV a, nodeV a] _ (pan K) _
  rw [cB_of _ (fun K => psame_spec hL d _ a a K ha (by omega) wa), same_self, bcond_t]
  show cI _ 27 [nodeV a] _ (pan K) _
  rw [cI_of _ (fun K => size_spec hL d _ a K ha (by omega) wa)]
  show cI _ 18 [nodeV a] _ (pan K) _
  rw [cI_of _ (fun K => rsize_spec hL d _ a K ha (by omega) wa), beq_i, bcond_t]
  show cI _ 28 [nodeV a] _ (pan K) _
  rw [cI_of _ (fun K => depth_spec hL d _ a K ha (by omega) wa)]
  show cI _ 29 [nodeV a] _ (pan K) _
  rw [cI_of _ (fun K => rdepth_spec hL d _ a K ha (by omega) wa), beq_i]
  exact h e1
end
end Go.Ev
namespace Go.Ev
open PV Go.RowKit
theorem rep_node {W : World} {t : Tree} {cs : Array Value} (h : NodeAt W t cs.toList) : Rep (γ0 W).I [] (nodeV t) (.agg cs) := by
  have e : (nodeRow t).length = 5 := by cases t; rfl
  have hv : nodeV t = .agg (nodeRow t) := by cases t; rfl
  rw [hv]
  refine .agg _ _ (by rw [e, ← Array.length_toList, h.1]) fun j hj => ?_
  have := h.2 j (by omega)
  rw [show cs.getD j Go.undef = cs.toList.getD j Go.undef by simp [Array.getD_eq_getD_getElem?, List.getD_eq_getElem?_getD]]
  exact this
theorem shapes_calls {W : World} (hT : ∀ c : Nat, c < 256 → W.cell? ⟨0, c, none⟩ = some (.int .u8 (if Lib.isSp (UInt8.ofNat c) then 1 else 0))) {a b : Tree} {ca cb : Array Value} (ha : NodeAt W a ca.toList) (sa : Sized a) (hb : NodeAt W b cb.toList) :
    Calls Go.Proofs.Tryz.prog 7 #[.agg ca, .agg cb] W fun e W' => e = .returned (.bool true) ∧ Below W.heap.size W W' := by
  obtain ⟨d, hd⟩ := hgt_ex a
  obtain ⟨n, hn⟩ : ∃ n : Nat, n = reachBytes + 2000010 := ⟨_, rfl⟩
  have h1 : reachBytes = 140737488351232 := rfl
  have h2 : 2000010 ≤ n := by omega
  have h3 : n ≤ 4611686018427387904 := by omega
  have h4 : reachBytes + 1 ≤ n := by omega
  obtain ⟨k, hk⟩ : ∃ k : Nat, k = dD 601 + eD 601 + 6 * d + 100 := ⟨_, rfl⟩
  exact law_calls (n := n) (k := k) hT (fun K h => shapes_spec h2 h3 hd (sa.1.mono h4) (sa.2.mono h4) (by omega) (fun e => h _)) (args2 (rep_node ha) (rep_node hb))
end Go.Ev
