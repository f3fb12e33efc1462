import Derived.Test.YtlnoadnejefmoaaProg
import Derived.Test.YtlnoadnejefmoaaMap
import Derived.Test.YtlnoadnejefmoaaBy
import Derived.KernelRfl
set_option linter.unusedVariables false
set_option linter.unusedSimpArgs false
namespace Go.Proofs.Ytlnoadnejefmoaa
open Go.RowKit

def kwl : List ByteArray := kwL.map tx
theorem zero_bool (w : World) : (zeroValue 4).run Try.prog w = .ok (.bool false) w := by kernel_rfl
set_option maxHeartbeats 8000000 in
set_option maxRecDepth 100000 in
theorem tok_keyword (a0 : ByteArray) (w : World) :
    Calls Try.prog 25 #[.string a0] w fun e w' => e = .returned (.bool (kwB a0)) ∧ Below w.heap.size w w' := by
  have hmm := @run_makeMap Try.prog
  have h0 : StrSet (w.alloc (.map #[] 0)) w.heap.size (.bool true) [] := HasMap.made w
  have b0 : Below w.heap.size w (w.alloc (.map #[] 0)) := (Below.refl _ _).alloc (Nat.le_refl _) _
  go_enter Try.func25, Try.ntmps25
  go_wp2_with (first
    | (refine wpList_insert_set _ rfl _ _ _ 59 rfl 9 4 Try.underlying59 Try.underlying9 w.heap.size (.bool true) _ rfl (by assumption) _ rfl rfl (by decide) (by assumption) (Nat.le_refl _) ?_; intro w1 h1 g1)
    | (at_lookup; refine wpList_lookup_set _ rfl _ _ 59 rfl 9 4 Try.underlying59 Try.underlying9 (zero_bool _) w.heap.size _ rfl (by assumption) _ rfl ?_; intro r hr))
  go_ret
  have e := hr.out
  simp only [List.nil_append, List.cons_append] at e
  exact ⟨ret_boolE (e.symm.trans (isKw_list kwL a0)), by assumption⟩
end Go.Proofs.Ytlnoadnejefmoaa
