import Derived.Test.YtlnoadnejefmoaaWWords
import Derived.Test.YtlnoadnejefmoaaSpec
import Derived.Test.YtlnoadnejefmoaaProg
import Derived.KernelRfl
set_option linter.unusedVariables false
set_option linter.unusedSimpArgs false
namespace Go.Proofs.Ytlnoadnejefmoaa
open Go.RowKit Go.Proofs.YtlnoadnejefmoaaW.PrintWords

/-! Tokens in memory. -/
def kTok : Kd Tok := Kd.iso (Kd.pair (Kd.int .i64) (Kd.pair Kd.string (Kd.pair (Kd.int .i64) (Kd.int .i64)))) (fun x : Tok => (x.kind, x.text, x.at_, x.end_))
def tokCells (x : Tok) : List Value := [.int .i64 x.kind, .string x.text, .int .i64 x.at_, .int .i64 x.end_]
theorem kTok_open {w : World} {x : Tok} {cs : List Value} (h : kTok.K w x cs) : cs = tokCells x := by
  obtain ⟨_, _, rfl, rfl, ⟨_, _, rfl, rfl, ⟨_, _, rfl, rfl, rfl⟩⟩⟩ := h
  exact rfl
theorem kTok_mk (w : World) (x : Tok) : kTok.K w x (tokCells x) := ⟨[.int .i64 x.kind], [.string x.text, .int .i64 x.at_, .int .i64 x.end_], rfl, rfl, ⟨[.string x.text], [.int .i64 x.at_, .int .i64 x.end_], rfl, rfl, ⟨[.int .i64 x.at_], [.int .i64 x.end_], rfl, rfl, rfl⟩⟩⟩
theorem kTok_mkM (w : World) (base : Nat) (ok : Nat → Prop) (x : Tok) : kTok.M w base ok x (tokCells x) := ⟨[.int .i64 x.kind], [.string x.text, .int .i64 x.at_, .int .i64 x.end_], rfl, rfl, ⟨[.string x.text], [.int .i64 x.at_, .int .i64 x.end_], rfl, rfl, ⟨[.int .i64 x.at_], [.int .i64 x.end_], rfl, rfl, rfl⟩⟩⟩
def tok0 : Tok := ⟨0, ⟨#[]⟩, 0, 0⟩
/-- Element i of a list of tokens, cell by cell. -/
theorem kTok_at {w : World} {A : Option Addr} {n : Nat} {xs : List Tok} (h : Kd.C kTok w A n xs) (i : Nat) (h1 : i < n) : ∃ ad, A = some ad ∧ w.cell? (ad.add (i * 4)) = some (.int .i64 (xs.getD i tok0).kind) ∧
    w.cell? ⟨(ad.add (i * 4)).block, (ad.add (i * 4)).off + 1, none⟩ = some (.string (xs.getD i tok0).text) ∧ w.cell? ⟨(ad.add (i * 4)).block, (ad.add (i * 4)).off + 2, none⟩ = some (.int .i64 (xs.getD i tok0).at_) ∧
    w.cell? ⟨(ad.add (i * 4)).block, (ad.add (i * 4)).off + 3, none⟩ = some (.int .i64 (xs.getD i tok0).end_) := by
  obtain ⟨ad, c, e, _, hK, hc0⟩ := Kd.C_get h tok0 (i : Int) (by omega) (by omega)
  simp only [Int.toNat_natCast] at hK hc0
  have hc : ∀ j u, c[j]? = some u → w.cell? (ad.add (i * 4 + j)) = some u := hc0
  obtain rfl := kTok_open hK
  exact ⟨ad, e, hc 0 _ rfl, by rw [← add_field _ _ 1 (by omega)]; exact hc 1 _ rfl, by rw [← add_field _ _ 2 (by omega)]; exact hc 2 _ rfl, by rw [← add_field _ _ 3 (by omega)]; exact hc 3 _ rfl⟩
theorem info_tok : (Try.prog.info? 33).map (fun i => (i.zero, i.size, i.bytes)) = some (some (.agg #[(.int .i64 0), (.string ⟨#[]⟩), (.int .i64 0), (.int .i64 0)]), 4, 40) := by kernel_rfl
end Go.Proofs.Ytlnoadnejefmoaa
