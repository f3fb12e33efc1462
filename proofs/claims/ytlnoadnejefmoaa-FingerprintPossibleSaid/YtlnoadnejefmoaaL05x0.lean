/- The machine's side of some functions, written by a program of this session out of the translation: each function as a plain function, and its contract. For arguments for which the plain function answers. -/
import Derived.Test.YtlnoadnejefmoaaProg
import Derived.Below
import Derived.Deep.Draws
import Derived.Deep.AppendLies
import Derived.Maps.AppendAt
import Derived.OwnWalk
import Derived.Laws.BytesArg
import Derived.Laws.MakeOwn
import Derived.Laws.OwnMore
import Derived.Deep.OwnRows
import Derived.Tactics
import Derived.Lib.ConvBytes
import Derived.Laws.Slices
import Derived.WalkKit
import Derived.KernelRfl
import Derived.RowKit3
import Derived.Deep.LoopGhost
import Derived.Deep.QuietTactic
import Derived.BigQuiet
import Derived.WideLaws
import Derived.Deep.DeepCutAuto
import Derived.Deep.CutBlock
import Derived.Deep.RegionHeld3
import Derived.Laws.Rows
import Derived.Lib.AppendStr
import Derived.ArgAppend
import Derived.Laws.IdiomCopy
import Derived.OrdersHeld
import Derived.Laws.BitsLemmas
import Derived.RowKit
import Derived.Test.YtlnoadnejefmoaaWWords
import Derived.Test.YtlnoadnejefmoaaWLast
import Derived.Test.YtlnoadnejefmoaaWTab
import Derived.Test.YtlnoadnejefmoaaWFour
import Derived.Test.YtlnoadnejefmoaaWQPut
import Derived.Test.YtlnoadnejefmoaaWApart
import Derived.Test.YtlnoadnejefmoaaWArr
import Derived.Test.YtlnoadnejefmoaaWZeros
import Derived.Test.YtlnoadnejefmoaaWFoot
import Derived.Test.YtlnoadnejefmoaaWKept
import Derived.Test.YtlnoadnejefmoaaWShare
import Derived.Test.YtlnoadnejefmoaaWN
import Derived.Test.YtlnoadnejefmoaaWFootNe
import Derived.Test.YtlnoadnejefmoaaWAt
import Derived.Test.YtlnoadnejefmoaaWEqStruct
import Derived.Test.YtlnoadnejefmoaaWRepsOne
import Derived.Test.YtlnoadnejefmoaaWInv
import Derived.Test.YtlnoadnejefmoaaWInvWords
import Derived.Test.YtlnoadnejefmoaaWGuard
import Derived.Test.YtlnoadnejefmoaaWNEv
import Derived.Test.YtlnoadnejefmoaaWMore
namespace Go.Proofs.Ytlnoadnejefmoaa.L05
open Go.RowKit Go.Proofs.YtlnoadnejefmoaaW.PrintWords Go.Proofs.YtlnoadnejefmoaaW.PrintLast Go.Proofs.YtlnoadnejefmoaaW.PrintMore
attribute [local go_sem] max2_int min2_int max_two min_two max_three min_three max_four min_four   -- for this text's walks alone
set_option linter.unusedVariables false
set_option linter.unusedSimpArgs false



def errW : Option Int → Value
  | none => .nilIface
  | some c => .iface 0 (.int .i64 c)
theorem errW_none : errW none = .nilIface := rfl
theorem errW_some (c : Int) : errW (some c) = .iface 0 (.int .i64 c) := rfl

theorem info3 : (Try.prog.info? 3).map (fun i => (i.zero, i.size, i.bytes)) = some (some (.int .i64 0), 1, 8) := by kernel_rfl
-- the values' own types

end Go.Proofs.Ytlnoadnejefmoaa.L05
