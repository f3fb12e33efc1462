/- What came in is read as structures. No condition. -/
import Derived.Test.YtlogobmimacpgaaL32x0
import Derived.Test.YtlogobmimacpgaaOpen
set_option linter.unusedVariables false
set_option linter.unusedSimpArgs false
namespace Go.Proofs.Ytlogobmimacpgaa.L32
open Go.RowKit Go.Proofs.YtlogobmimacpgaaW.PrintWords

def V30 (x : S30) : Prop := (Lit.int .i64 x.f0).wf = true ∧ (Lit.int .i64 x.f1).wf = true ∧ x.f2.size ≤ maxLen ∧ (Lit.int .i64 x.f3).wf = true ∧ x.f4.size ≤ maxLen ∧ (x.f5.length ≤ maxLen ∧ ∀ a ∈ x.f5, (fun s : ByteArray => s.size ≤ maxLen) a) ∧ (x.f6.length ≤ maxLen ∧ ∀ a ∈ x.f6, (fun s : ByteArray => s.size ≤ maxLen) a) ∧ (Lit.int .i64 x.f8).wf = true ∧ (Lit.int .i64 x.f9).wf = true ∧ (Lit.int .i64 x.f10).wf = true
set_option maxRecDepth 100000 in
theorem opens30 {w : World} : ∀ n, OpensAt Try.prog w n 30 k30 V30 := by
  intro n
  induction n using Nat.strongRecOn with
  | _ n ih =>
  intro H enc base spare held cs x h
  obtain ⟨xs, m, rfl, _, hlen, hxs, hf⟩ := DataW.trod_struct Try.underlying30 h
  have hcs : cs.length = 11 := hlen.trans (by kernel_rfl)
  have hxl : xs.length = 11 := hxs
  match cs, hcs, xs, hxl, hf with
  | [c0, c1, c2, c3, c4, c5, c6, c7, c8, c9, c10], _, [y0, y1, y2, y3, y4, y5, y6, y7, y8, y9, y10], _, hf =>
    have g0 : DataW.trod enc Try.prog w base spare held m 3 (([c0, c1, c2, c3, c4, c5, c6, c7, c8, c9, c10].drop 0).take (Try.prog.cellsOf 3)) = some y0 := hf 0 _ rfl
    rw [show Try.prog.cellsOf 3 = 1 from by kernel_rfl] at g0
    obtain ⟨a0, e0, _, w0⟩ := DataW.trod_int Try.underlying3 g0
    have q0 : c0 = .int .i64 a0 := by simpa using e0
    have g1 : DataW.trod enc Try.prog w base spare held m 3 (([c0, c1, c2, c3, c4, c5, c6, c7, c8, c9, c10].drop 1).take (Try.prog.cellsOf 3)) = some y1 := hf 1 _ rfl
    rw [show Try.prog.cellsOf 3 = 1 from by kernel_rfl] at g1
    obtain ⟨a1, e1, _, w1⟩ := DataW.trod_int Try.underlying3 g1
    have q1 : c1 = .int .i64 a1 := by simpa using e1
    have g2 : DataW.trod enc Try.prog w base spare held m 9 (([c0, c1, c2, c3, c4, c5, c6, c7, c8, c9, c10].drop 2).take (Try.prog.cellsOf 9)) = some y2 := hf 2 _ rfl
    rw [show Try.prog.cellsOf 9 = 1 from by kernel_rfl] at g2
    obtain ⟨a2, e2, _, w2⟩ := DataW.trod_string Try.underlying9 g2
    have q2 : c2 = .string a2 := by simpa using e2
    have g3 : DataW.trod enc Try.prog w base spare held m 3 (([c0, c1, c2, c3, c4, c5, c6, c7, c8, c9, c10].drop 3).take (Try.prog.cellsOf 3)) = some y3 := hf 3 _ rfl
    rw [show Try.prog.cellsOf 3 = 1 from by kernel_rfl] at g3
    obtain ⟨a3, e3, _, w3⟩ := DataW.trod_int Try.underlying3 g3
    have q3 : c3 = .int .i64 a3 := by simpa using e3
    have g4 : DataW.trod enc Try.prog w base spare held m 9 (([c0, c1, c2, c3, c4, c5, c6, c7, c8, c9, c10].drop 4).take (Try.prog.cellsOf 9)) = some y4 := hf 4 _ rfl
    rw [show Try.prog.cellsOf 9 = 1 from by kernel_rfl] at g4
    obtain ⟨a4, e4, _, w4⟩ := DataW.trod_string Try.underlying9 g4
    have q4 : c4 = .string a4 := by simpa using e4
    have g5 : DataW.trod enc Try.prog w base spare held m 28 (([c0, c1, c2, c3, c4, c5, c6, c7, c8, c9, c10].drop 5).take (Try.prog.cellsOf 28)) = some y5 := hf 5 _ rfl
    rw [show Try.prog.cellsOf 28 = 1 from by kernel_rfl] at g5
    obtain ⟨A5, k5, a5, e5, l5, w5, C5, V5⟩ := opens_row (d := Kd.string) (V := (fun s : ByteArray => s.size ≤ maxLen)) Try.underlying28 (by kernel_rfl) (fun m' _ => opens_string Try.underlying9 (n := m')) g5
    have q5 : c5 = .slice A5 a5.length k5 := by simpa using e5
    have g6 : DataW.trod enc Try.prog w base spare held m 28 (([c0, c1, c2, c3, c4, c5, c6, c7, c8, c9, c10].drop 6).take (Try.prog.cellsOf 28)) = some y6 := hf 6 _ rfl
    rw [show Try.prog.cellsOf 28 = 1 from by kernel_rfl] at g6
    obtain ⟨A6, k6, a6, e6, l6, w6, C6, V6⟩ := opens_row (d := Kd.string) (V := (fun s : ByteArray => s.size ≤ maxLen)) Try.underlying28 (by kernel_rfl) (fun m' _ => opens_string Try.underlying9 (n := m')) g6
    have q6 : c6 = .slice A6 a6.length k6 := by simpa using e6
    have g7 : DataW.trod enc Try.prog w base spare held m 4 (([c0, c1, c2, c3, c4, c5, c6, c7, c8, c9, c10].drop 7).take (Try.prog.cellsOf 4)) = some y7 := hf 7 _ rfl
    rw [show Try.prog.cellsOf 4 = 1 from by kernel_rfl] at g7
    obtain ⟨a7, e7, _⟩ := DataW.trod_bool Try.underlying4 g7
    have q7 : c7 = .bool a7 := by simpa using e7
    have g8 : DataW.trod enc Try.prog w base spare held m 3 (([c0, c1, c2, c3, c4, c5, c6, c7, c8, c9, c10].drop 8).take (Try.prog.cellsOf 3)) = some y8 := hf 8 _ rfl
    rw [show Try.prog.cellsOf 3 = 1 from by kernel_rfl] at g8
    obtain ⟨a8, e8, _, w8⟩ := DataW.trod_int Try.underlying3 g8
    have q8 : c8 = .int .i64 a8 := by simpa using e8
    have g9 : DataW.trod enc Try.prog w base spare held m 3 (([c0, c1, c2, c3, c4, c5, c6, c7, c8, c9, c10].drop 9).take (Try.prog.cellsOf 3)) = some y9 := hf 9 _ rfl
    rw [show Try.prog.cellsOf 3 = 1 from by kernel_rfl] at g9
    obtain ⟨a9, e9, _, w9⟩ := DataW.trod_int Try.underlying3 g9
    have q9 : c9 = .int .i64 a9 := by simpa using e9
    have g10 : DataW.trod enc Try.prog w base spare held m 3 (([c0, c1, c2, c3, c4, c5, c6, c7, c8, c9, c10].drop 10).take (Try.prog.cellsOf 3)) = some y10 := hf 10 _ rfl
    rw [show Try.prog.cellsOf 3 = 1 from by kernel_rfl] at g10
    obtain ⟨a10, e10, _, w10⟩ := DataW.trod_int Try.underlying3 g10
    have q10 : c10 = .int .i64 a10 := by simpa using e10
    subst q0 q1 q2 q3 q4 q5 q6 q7 q8 q9 q10
    exact ⟨⟨a0, a1, a2, a3, a4, a5, a6, a7, a8, a9, a10⟩, k30_mk w ⟨a0, a1, a2, a3, a4, a5, a6, a7, a8, a9, a10⟩ l5 C5 l6 C6, ⟨w0, w1, w2, w3, w4, ⟨w5, V5⟩, ⟨w6, V6⟩, w8, w9, w10⟩⟩
def V54 (x : S54) : Prop := (Lit.int .i64 x.f0).wf = true ∧ (Lit.int .i64 x.f1).wf = true ∧ (Lit.int .i64 x.f2).wf = true ∧ (Lit.int .i64 x.f3).wf = true ∧ (Lit.int .i64 x.f4).wf = true ∧ (Lit.int .i64 x.f5).wf = true
set_option maxRecDepth 100000 in
theorem opens54 {w : World} : ∀ n, OpensAt Try.prog w n 54 k54 V54 := by
  intro n
  induction n using Nat.strongRecOn with
  | _ n ih =>
  intro H enc base spare held cs x h
  obtain ⟨xs, m, rfl, _, hlen, hxs, hf⟩ := DataW.trod_struct Try.underlying54 h
  have hcs : cs.length = 6 := hlen.trans (by kernel_rfl)
  have hxl : xs.length = 6 := hxs
  match cs, hcs, xs, hxl, hf with
  | [c0, c1, c2, c3, c4, c5], _, [y0, y1, y2, y3, y4, y5], _, hf =>
    have g0 : DataW.trod enc Try.prog w base spare held m 3 (([c0, c1, c2, c3, c4, c5].drop 0).take (Try.prog.cellsOf 3)) = some y0 := hf 0 _ rfl
    rw [show Try.prog.cellsOf 3 = 1 from by kernel_rfl] at g0
    obtain ⟨a0, e0, _, w0⟩ := DataW.trod_int Try.underlying3 g0
    have q0 : c0 = .int .i64 a0 := by simpa using e0
    have g1 : DataW.trod enc Try.prog w base spare held m 3 (([c0, c1, c2, c3, c4, c5].drop 1).take (Try.prog.cellsOf 3)) = some y1 := hf 1 _ rfl
    rw [show Try.prog.cellsOf 3 = 1 from by kernel_rfl] at g1
    obtain ⟨a1, e1, _, w1⟩ := DataW.trod_int Try.underlying3 g1
    have q1 : c1 = .int .i64 a1 := by simpa using e1
    have g2 : DataW.trod enc Try.prog w base spare held m 3 (([c0, c1, c2, c3, c4, c5].drop 2).take (Try.prog.cellsOf 3)) = some y2 := hf 2 _ rfl
    rw [show Try.prog.cellsOf 3 = 1 from by kernel_rfl] at g2
    obtain ⟨a2, e2, _, w2⟩ := DataW.trod_int Try.underlying3 g2
    have q2 : c2 = .int .i64 a2 := by simpa using e2
    have g3 : DataW.trod enc Try.prog w base spare held m 3 (([c0, c1, c2, c3, c4, c5].drop 3).take (Try.prog.cellsOf 3)) = some y3 := hf 3 _ rfl
    rw [show Try.prog.cellsOf 3 = 1 from by kernel_rfl] at g3
    obtain ⟨a3, e3, _, w3⟩ := DataW.trod_int Try.underlying3 g3
    have q3 : c3 = .int .i64 a3 := by simpa using e3
    have g4 : DataW.trod enc Try.prog w base spare held m 3 (([c0, c1, c2, c3, c4, c5].drop 4).take (Try.prog.cellsOf 3)) = some y4 := hf 4 _ rfl
    rw [show Try.prog.cellsOf 3 = 1 from by kernel_rfl] at g4
    obtain ⟨a4, e4, _, w4⟩ := DataW.trod_int Try.underlying3 g4
    have q4 : c4 = .int .i64 a4 := by simpa using e4
    have g5 : DataW.trod enc Try.prog w base spare held m 3 (([c0, c1, c2, c3, c4, c5].drop 5).take (Try.prog.cellsOf 3)) = some y5 := hf 5 _ rfl
    rw [show Try.prog.cellsOf 3 = 1 from by kernel_rfl] at g5
    obtain ⟨a5, e5, _, w5⟩ := DataW.trod_int Try.underlying3 g5
    have q5 : c5 = .int .i64 a5 := by simpa using e5
    subst q0 q1 q2 q3 q4 q5
    exact ⟨⟨a0, a1, a2, a3, a4, a5⟩, k54_mk w ⟨a0, a1, a2, a3, a4, a5⟩, ⟨w0, w1, w2, w3, w4, w5⟩⟩
def V145 (x : S145) : Prop := (Lit.int .i64 x.f0).wf = true ∧ (Lit.int .i64 x.f1).wf = true
set_option maxRecDepth 100000 in
theorem opens145 {w : World} : ∀ n, OpensAt Try.prog w n 145 k145 V145 := by
  intro n
  induction n using Nat.strongRecOn with
  | _ n ih =>
  intro H enc base spare held cs x h
  obtain ⟨xs, m, rfl, _, hlen, hxs, hf⟩ := DataW.trod_struct Try.underlying145 h
  have hcs : cs.length = 2 := hlen.trans (by kernel_rfl)
  have hxl : xs.length = 2 := hxs
  match cs, hcs, xs, hxl, hf with
  | [c0, c1], _, [y0, y1], _, hf =>
    have g0 : DataW.trod enc Try.prog w base spare held m 3 (([c0, c1].drop 0).take (Try.prog.cellsOf 3)) = some y0 := hf 0 _ rfl
    rw [show Try.prog.cellsOf 3 = 1 from by kernel_rfl] at g0
    obtain ⟨a0, e0, _, w0⟩ := DataW.trod_int Try.underlying3 g0
    have q0 : c0 = .int .i64 a0 := by simpa using e0
    have g1 : DataW.trod enc Try.prog w base spare held m 3 (([c0, c1].drop 1).take (Try.prog.cellsOf 3)) = some y1 := hf 1 _ rfl
    rw [show Try.prog.cellsOf 3 = 1 from by kernel_rfl] at g1
    obtain ⟨a1, e1, _, w1⟩ := DataW.trod_int Try.underlying3 g1
    have q1 : c1 = .int .i64 a1 := by simpa using e1
    subst q0 q1
    exact ⟨⟨a0, a1⟩, k145_mk w ⟨a0, a1⟩, ⟨w0, w1⟩⟩
def V56 (x : S56) : Prop := (Lit.int .i64 x.f0).wf = true ∧ (Lit.int .i64 x.f1).wf = true ∧ (Lit.int .i64 x.f2).wf = true ∧ x.f3.size ≤ maxLen
set_option maxRecDepth 100000 in
theorem opens56 {w : World} : ∀ n, OpensAt Try.prog w n 56 k56 V56 := by
  intro n
  induction n using Nat.strongRecOn with
  | _ n ih =>
  intro H enc base spare held cs x h
  obtain ⟨xs, m, rfl, _, hlen, hxs, hf⟩ := DataW.trod_struct Try.underlying56 h
  have hcs : cs.length = 4 := hlen.trans (by kernel_rfl)
  have hxl : xs.length = 4 := hxs
  match cs, hcs, xs, hxl, hf with
  | [c0, c1, c2, c3], _, [y0, y1, y2, y3], _, hf =>
    have g0 : DataW.trod enc Try.prog w base spare held m 3 (([c0, c1, c2, c3].drop 0).take (Try.prog.cellsOf 3)) = some y0 := hf 0 _ rfl
    rw [show Try.prog.cellsOf 3 = 1 from by kernel_rfl] at g0
    obtain ⟨a0, e0, _, w0⟩ := DataW.trod_int Try.underlying3 g0
    have q0 : c0 = .int .i64 a0 := by simpa using e0
    have g1 : DataW.trod enc Try.prog w base spare held m 3 (([c0, c1, c2, c3].drop 1).take (Try.prog.cellsOf 3)) = some y1 := hf 1 _ rfl
    rw [show Try.prog.cellsOf 3 = 1 from by kernel_rfl] at g1
    obtain ⟨a1, e1, _, w1⟩ := DataW.trod_int Try.underlying3 g1
    have q1 : c1 = .int .i64 a1 := by simpa using e1
    have g2 : DataW.trod enc Try.prog w base spare held m 3 (([c0, c1, c2, c3].drop 2).take (Try.prog.cellsOf 3)) = some y2 := hf 2 _ rfl
    rw [show Try.prog.cellsOf 3 = 1 from by kernel_rfl] at g2
    obtain ⟨a2, e2, _, w2⟩ := DataW.trod_int Try.underlying3 g2
    have q2 : c2 = .int .i64 a2 := by simpa using e2
    have g3 : DataW.trod enc Try.prog w base spare held m 9 (([c0, c1, c2, c3].drop 3).take (Try.prog.cellsOf 9)) = some y3 := hf 3 _ rfl
    rw [show Try.prog.cellsOf 9 = 1 from by kernel_rfl] at g3
    obtain ⟨a3, e3, _, w3⟩ := DataW.trod_string Try.underlying9 g3
    have q3 : c3 = .string a3 := by simpa using e3
    subst q0 q1 q2 q3
    exact ⟨⟨a0, a1, a2, a3⟩, k56_mk w ⟨a0, a1, a2, a3⟩, ⟨w0, w1, w2, w3⟩⟩
abbrev kGraph : Kd (List S30 × List S54 × List S145 × List S145) := (Kd.pair (Kd.slice 30 k30) (Kd.pair (Kd.slice 54 k54) (Kd.pair (Kd.slice 145 k145) (Kd.slice 145 k145))))
set_option maxRecDepth 100000 in
theorem opensGraph {w : World} : ∀ n, OpensAt Try.prog w n 26 kGraph (fun _ => True) := by
  intro n H enc base spare held cs x h
  obtain ⟨xs, m, rfl, _, hlen, hxs, hf⟩ := DataW.trod_struct Try.underlying26 h
  have hcs : cs.length = 4 := hlen.trans (by kernel_rfl)
  have hxl : xs.length = 4 := hxs
  match cs, hcs, xs, hxl, hf with
  | [c0, c1, c2, c3], _, [y0, y1, y2, y3], _, hf =>
    have g0 : DataW.trod enc Try.prog w base spare held m 22 (([c0, c1, c2, c3].drop 0).take (Try.prog.cellsOf 22)) = some y0 := hf 0 _ rfl
    rw [show Try.prog.cellsOf 22 = 1 from by kernel_rfl] at g0
    obtain ⟨A0, k0, a0, e0, l0, w0, C0, V0⟩ := opens_row (d := k30) (V := V30) Try.underlying22 (by kernel_rfl) (fun m' _ => opens30 m') g0
    have q0 : c0 = .slice A0 a0.length k0 := by simpa using e0
    have g1 : DataW.trod enc Try.prog w base spare held m 23 (([c0, c1, c2, c3].drop 1).take (Try.prog.cellsOf 23)) = some y1 := hf 1 _ rfl
    rw [show Try.prog.cellsOf 23 = 1 from by kernel_rfl] at g1
    obtain ⟨A1, k1, a1, e1, l1, w1, C1, V1⟩ := opens_row (d := k54) (V := V54) Try.underlying23 (by kernel_rfl) (fun m' _ => opens54 m') g1
    have q1 : c1 = .slice A1 a1.length k1 := by simpa using e1
    have g2 : DataW.trod enc Try.prog w base spare held m 24 (([c0, c1, c2, c3].drop 2).take (Try.prog.cellsOf 24)) = some y2 := hf 2 _ rfl
    rw [show Try.prog.cellsOf 24 = 1 from by kernel_rfl] at g2
    obtain ⟨A2, k2, a2, e2, l2, w2, C2, V2⟩ := opens_row (d := k145) (V := V145) Try.underlying24 (by kernel_rfl) (fun m' _ => opens145 m') g2
    have q2 : c2 = .slice A2 a2.length k2 := by simpa using e2
    have g3 : DataW.trod enc Try.prog w base spare held m 24 (([c0, c1, c2, c3].drop 3).take (Try.prog.cellsOf 24)) = some y3 := hf 3 _ rfl
    rw [show Try.prog.cellsOf 24 = 1 from by kernel_rfl] at g3
    obtain ⟨A3, k3, a3, e3, l3, w3, C3, V3⟩ := opens_row (d := k145) (V := V145) Try.underlying24 (by kernel_rfl) (fun m' _ => opens145 m') g3
    have q3 : c3 = .slice A3 a3.length k3 := by simpa using e3
    subst q0 q1 q2 q3
    exact ⟨(a0, a1, a2, a3), ⟨[.slice A0 a0.length k0], [.slice A1 a1.length k1, .slice A2 a2.length k2, .slice A3 a3.length k3], rfl, ⟨A0, k0, rfl, l0, C0⟩, ⟨[.slice A1 a1.length k1], [.slice A2 a2.length k2, .slice A3 a3.length k3], rfl, ⟨A1, k1, rfl, l1, C1⟩, ⟨[.slice A2 a2.length k2], [.slice A3 a3.length k3], rfl, ⟨A2, k2, rfl, l2, C2⟩, ⟨A3, k3, rfl, l3, C3⟩⟩⟩⟩, trivial⟩
end Go.Proofs.Ytlogobmimacpgaa.L32
