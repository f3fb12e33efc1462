/- What came in is read as structures. No condition. -/
import Derived.Test.YtlogobmimacpgaaL32x0
import Derived.Test.YtlogobmimacpgaaOpen
set_option linter.unusedVariables false
set_option linter.unusedSimpArgs false
namespace Go.Proofs.Ytlogobmimacpgaa.L32
open Go.RowKit Go.Proofs.YtlogobmimacpgaaW.PrintWords

def V56 (x : S56) : Prop := (Lit.int .i64 x.f0).wf = true ∧ (Lit.int .i64 x.f1).wf = true ∧ (Lit.int .i64 x.f2).wf = true ∧ x.f3.size ≤ maxLen
set_option maxRecDepth 100000 in
theorem opens56 {w : World} : ∀ n, OpensAt Try.prog w n 56 k56 V56 := by
  intro n
  induction n using Nat.strongRecOn with
  | _ n ih =>
  intro H enc base spare held cs x h
  obtain ⟨xs, m, rfl, _, hlen, hxs, hf⟩ := DataW.trod_struct Try.underlying56 h
  have hcs : cs.length = 4 := hlen.trans (by kernel_rfl)
  have hxl : xs.length = 4 := hxs
  match cs, hcs, xs, hxl, hf with
  | [c0, c1, c2, c3], _, [y0, y1, y2, y3], _, hf =>
    have g0 : DataW.trod enc Try.prog w base spare held m 3 (([c0, c1, c2, c3].drop 0).take (Try.prog.cellsOf 3)) = some y0 := hf 0 _ rfl
    rw [show Try.prog.cellsOf 3 = 1 from by kernel_rfl] at g0
    obtain ⟨a0, e0, _, w0⟩ := DataW.trod_int Try.underlying3 g0
    have q0 : c0 = .int .i64 a0 := by simpa using e0
    have g1 : DataW.trod enc Try.prog w base spare held m 3 (([c0, c1, c2, c3].drop 1).take (Try.prog.cellsOf 3)) = some y1 := hf 1 _ rfl
    rw [show Try.prog.cellsOf 3 = 1 from by kernel_rfl] at g1
    obtain ⟨a1, e1, _, w1⟩ := DataW.trod_int Try.underlying3 g1
    have q1 : c1 = .int .i64 a1 := by simpa using e1
    have g2 : DataW.trod enc Try.prog w base spare held m 3 (([c0, c1, c2, c3].drop 2).take (Try.prog.cellsOf 3)) = some y2 := hf 2 _ rfl
    rw [show Try.prog.cellsOf 3 = 1 from by kernel_rfl] at g2
    obtain ⟨a2, e2, _, w2⟩ := DataW.trod_int Try.underlying3 g2
    have q2 : c2 = .int .i64 a2 := by simpa using e2
    have g3 : DataW.trod enc Try.prog w base spare held m 9 (([c0, c1, c2, c3].drop 3).take (Try.prog.cellsOf 9)) = some y3 := hf 3 _ rfl
    rw [show Try.prog.cellsOf 9 = 1 from by kernel_rfl] at g3
    obtain ⟨a3, e3, _, w3⟩ := DataW.trod_string Try.underlying9 g3
    have q3 : c3 = .string a3 := by simpa using e3
    subst q0 q1 q2 q3
    exact ⟨⟨a0, a1, a2, a3⟩, k56_mk w ⟨a0, a1, a2, a3⟩, ⟨w0, w1, w2, w3⟩⟩
end Go.Proofs.Ytlogobmimacpgaa.L32
