/- Trees and labels that came in are read as structures. No condition. -/
import Derived.Test.YtlnoadnejefmoaaL20x0
import Derived.Test.YtlnoadnejefmoaaOpen
set_option linter.unusedVariables false
set_option linter.unusedSimpArgs false
namespace Go.Proofs.Ytlnoadnejefmoaa.L20
open Go.RowKit Go.Proofs.YtlnoadnejefmoaaW.PrintWords

inductive V42 : S42 → Prop
  | mk (x : S42) (h0 : (Lit.int .i64 x.f0).wf = true) (h1 : x.f1.size ≤ maxLen) (h2 : (Lit.int .i64 x.f2).wf = true) (h3 : (Lit.int .i64 x.f3).wf = true) (h4 : x.f4.length ≤ maxLen) (g4 : ∀ a ∈ x.f4, V42 a) : V42 x
set_option maxRecDepth 100000 in
theorem opens42 {w : World} : ∀ n, OpensAt Try.prog w n 42 k42 V42 := by
  intro n
  induction n using Nat.strongRecOn with
  | _ n ih =>
  intro H enc base spare held cs x h
  obtain ⟨xs, m, rfl, _, hlen, hxs, hf⟩ := DataW.trod_struct Try.underlying42 h
  have hcs : cs.length = 5 := hlen.trans (by kernel_rfl)
  have hxl : xs.length = 5 := hxs
  match cs, hcs, xs, hxl, hf with
  | [c0, c1, c2, c3, c4], _, [y0, y1, y2, y3, y4], _, hf =>
    have g0 : DataW.trod enc Try.prog w base spare held m 3 (([c0, c1, c2, c3, c4].drop 0).take (Try.prog.cellsOf 3)) = some y0 := hf 0 _ rfl
    rw [show Try.prog.cellsOf 3 = 1 from by kernel_rfl] at g0
    obtain ⟨a0, e0, _, w0⟩ := DataW.trod_int Try.underlying3 g0
    have q0 : c0 = .int .i64 a0 := by simpa using e0
    have g1 : DataW.trod enc Try.prog w base spare held m 9 (([c0, c1, c2, c3, c4].drop 1).take (Try.prog.cellsOf 9)) = some y1 := hf 1 _ rfl
    rw [show Try.prog.cellsOf 9 = 1 from by kernel_rfl] at g1
    obtain ⟨a1, e1, _, w1⟩ := DataW.trod_string Try.underlying9 g1
    have q1 : c1 = .string a1 := by simpa using e1
    have g2 : DataW.trod enc Try.prog w base spare held m 3 (([c0, c1, c2, c3, c4].drop 2).take (Try.prog.cellsOf 3)) = some y2 := hf 2 _ rfl
    rw [show Try.prog.cellsOf 3 = 1 from by kernel_rfl] at g2
    obtain ⟨a2, e2, _, w2⟩ := DataW.trod_int Try.underlying3 g2
    have q2 : c2 = .int .i64 a2 := by simpa using e2
    have g3 : DataW.trod enc Try.prog w base spare held m 3 (([c0, c1, c2, c3, c4].drop 3).take (Try.prog.cellsOf 3)) = some y3 := hf 3 _ rfl
    rw [show Try.prog.cellsOf 3 = 1 from by kernel_rfl] at g3
    obtain ⟨a3, e3, _, w3⟩ := DataW.trod_int Try.underlying3 g3
    have q3 : c3 = .int .i64 a3 := by simpa using e3
    have g4 : DataW.trod enc Try.prog w base spare held m 40 (([c0, c1, c2, c3, c4].drop 4).take (Try.prog.cellsOf 40)) = some y4 := hf 4 _ rfl
    rw [show Try.prog.cellsOf 40 = 1 from by kernel_rfl] at g4
    obtain ⟨A4, k4, a4, e4, l4, w4, C4, V4⟩ := opens_row (d := k42) (V := V42) Try.underlying40 (by kernel_rfl) (fun m' hm' => ih m' (by omega)) g4
    have q4 : c4 = .slice A4 a4.length k4 := by simpa using e4
    subst q0 q1 q2 q3 q4
    exact ⟨⟨a0, a1, a2, a3, a4⟩, k42_mk w ⟨a0, a1, a2, a3, a4⟩ l4 C4, ⟨_, w0, w1, w2, w3, w4, V4⟩⟩
set_option maxRecDepth 100000 in
theorem opensLabel {w : World} : ∀ n, OpensAt Try.prog w n 36 (Kd.pair (Kd.int .i64) Kd.string) (fun _ => True) := by
  intro n H enc base spare held cs x h
  obtain ⟨xs, m, rfl, _, hlen, hxs, hf⟩ := DataW.trod_struct Try.underlying36 h
  have hcs : cs.length = 2 := hlen.trans (by kernel_rfl)
  have hxl : xs.length = 2 := hxs
  match cs, hcs, xs, hxl, hf with
  | [c0, c1], _, [y0, y1], _, hf =>
    have g0 : DataW.trod enc Try.prog w base spare held m 3 (([c0, c1].drop 0).take (Try.prog.cellsOf 3)) = some y0 := hf 0 _ rfl
    rw [show Try.prog.cellsOf 3 = 1 from by kernel_rfl] at g0
    obtain ⟨a0, e0, _, w0⟩ := DataW.trod_int Try.underlying3 g0
    have q0 : c0 = .int .i64 a0 := by simpa using e0
    have g1 : DataW.trod enc Try.prog w base spare held m 9 (([c0, c1].drop 1).take (Try.prog.cellsOf 9)) = some y1 := hf 1 _ rfl
    rw [show Try.prog.cellsOf 9 = 1 from by kernel_rfl] at g1
    obtain ⟨a1, e1, _, w1⟩ := DataW.trod_string Try.underlying9 g1
    have q1 : c1 = .string a1 := by simpa using e1
    subst q0 q1
    exact ⟨(a0, a1), ⟨[.int .i64 a0], [.string a1], rfl, rfl, rfl⟩, trivial⟩
end Go.Proofs.Ytlnoadnejefmoaa.L20
