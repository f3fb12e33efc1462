/- The closure of fingerprint.features at every node, by the depth of the tree. Strings of at most 1000000000 bytes. -/
import Derived.Test.YtlnoadnejefmoaaFpFeat2
import Derived.Test.YtlnoadnejefmoaaFpFeat3
set_option linter.unusedVariables false
set_option linter.unusedSimpArgs false
namespace Go.Proofs.Ytlnoadnejefmoaa.L20
open Go.RowKit Go.Maps Go.Proofs.YtlnoadnejefmoaaW.PrintWords
theorem fp_visit (w0 : World) (bs bf bm bv : Nat) (hbm : w0.heap.size ≤ bm) (h1 : bs ≠ bm) (h2 : bf ≠ bm) (h3 : bv ≠ bm) (skip : Bool) : ∀ k, VisitAt w0 bs bf bm bv skip k := by
  intro k
  induction k with
  | zero => intro n A c acc l w h; cases h
  | succ k ih =>
    intro n A c acc l w h hC hb0 c1 c2 c3 hS hn
    unfold featL at h
    split at h
    case isFalse => cases h
    rename_i hsz
    obtain ⟨ls, hls, rfl⟩ := Option.map_eq_some_iff.1 h
    cases skip with
    | false => exact fp_visit_1 w0 bs bf bm bv hbm h1 h2 h3 k ih n A c acc ls w hsz.1 hsz.2 (Hid.mk' hls) hC hb0 c1 c2 c3 hS hn
    | true =>
      cases hM : isM n with
      | true => exact fp_visit_2 w0 bs bf bm bv hbm h1 h2 h3 k ih n A c acc ls w hsz.1 hsz.2 (Hid.mk' hM) (Hid.mk' hls) hC hb0 c1 c2 c3 hS hn
      | false => exact fp_visit_3 w0 bs bf bm bv hbm h1 h2 h3 k ih n A c acc ls w hsz.1 hsz.2 (Hid.mk' hM) (Hid.mk' hls) hC hb0 c1 c2 c3 hS hn
end Go.Proofs.Ytlnoadnejefmoaa.L20
